import Derived.Test.YtmebonambbhehaaGreatQaCore
import Derived.DeepKeys3
import Derived.MapKept
import Derived.Laws.BytesString
set_option linter.all false
namespace Go.Pv
open Go Go.RowKit
section
variable {P:Program} {T:TypeId->TyI} {G:Gh} {sg:List Box} {w:World}
theorem gl:∀(m:Nat) (t:TypeId),P.keyTypeAt m t=true->∀n,m<=n->P.eqGuardType n t=false
 |0,t,h,n,_=>by simp[Program.keyTypeAt]at h
 |m+1,t,h,0,hn=>by omega
 |m+1,t,h,n+1,hn=>by
  unfold Program.keyTypeAt at h;unfold Program.eqGuardType;cases hu:P.underlying t with
  |none=>rfl
  |some ud =>
   rw[hu]at h;cases ud <;> try rfl
   ·exact gl m _ h n (by omega)
   ·simp only[D3,Array.all_eq_true_iff_forall_mem]at h
    dsimp only;rw[Bool.eq_false_iff];intro hany;obtain⟨f,hf,hb⟩:=Array.any_eq_true'.1 hany;have h1:=h.1.1 f hf;rw[gl m f.type h1.2 n (by omega)]at hb
    simp at hb
   ·simp at h
section
variable (d:Nat) {t:TypeId} {P:Program} {w:World}
theorem fP{e:TypeId}(hu:P.underlying t=some (.slice e))(A:Option Addr)(n c a b:Nat):(Op.equalIn (d+1) t (.slice A n c) (.slice none a b)).run P w=.ok A.isNone w:=by
 cases A <;> simp[Op.equalIn,run_underlying hu]
theorem ti{k e:TypeId}(hu:P.underlying t=some (.map k e))(A:Option Nat):(Op.equalIn (d+1) t (.map A) (.map none)).run P w=.ok A.isNone w:=by
 cases A <;> simp[Op.equalIn,run_underlying hu]
theorem eqi_fn0{a b:Array TypeId}{v:Bool}(hu:P.underlying t=some (.func a b v)):(Op.equalIn (d+1) t .nilFunc .nilFunc).run P w=.ok true w:=by
 simp[Op.equalIn,run_underlying hu]
theorem eqi_fn1{a b:Array TypeId}{v:Bool}(hu:P.underlying t=some (.func a b v))(f:Fn)(x y:Array Value):(Op.equalIn (d+1) t (.func f x y) .nilFunc).run P w=.ok false w:=by
 simp[Op.equalIn,run_underlying hu]
theorem eqi_if0{ms:Array (String×TypeId)}(hu:P.underlying t=some (.interface ms)):(Op.equalIn (d+1) t .nilIface .nilIface).run P w=.ok true w:=by
 simp[Op.equalIn,run_underlying hu]
theorem eqi_if1{ms:Array (String×TypeId)}(hu:P.underlying t=some (.interface ms))(f:TypeId)(x:Value):(Op.equalIn (d+1) t (.iface f x) .nilIface).run P w=.ok false w:=by
 simp[Op.equalIn,run_underlying hu]
end
theorem wfw(k:IntKind)(n:Int):(Lit.int k (k.wrap n)).wf=true:=by
 cases k <;> simp[Lit.wf,IntKind.wrap,IntKind.min,IntKind.max,IntKind.signed,IntKind.bits] <;> (try split) <;> omega
theorem bP(t:TypeId)(u v:Value):Op.equal t u v=Op.equalIn (9999+1) t u v:=rfl
theorem depth_le(P:Program):20<=P.depth:=by
 unfold Program.depth Made.depth;omega
def eqRun(P:Program)(w:World)(t:TypeId)(x y:Operand)(u v:Value)(r:Bool):Prop :=
 (do eqGuard .eql t x y u v;binOp .eql t u v:Sem Value).run P w=.ok (.bool r) w∧(do eqGuard .neq t x y u v;binOp .neq t u v:Sem Value).run P w=.ok (.bool (!r)) w
theorem bk{t:TypeId}{x y:Operand}{u v:Value}{r:Bool}(h:(Op.equal t u v).run P w=.ok r w)(g1:(eqGuard .eql t x y u v).run P w=.ok () w)(g2:(eqGuard .neq t x y u v).run P w=.ok () w)
 (b1:binOp .eql t u v=(do pure (.bool (←Op.equal t u v)):Sem Value)) (b2:binOp .neq t u v=(do pure (.bool (!(←Op.equal t u v))):Sem Value)):eqRun P w t x y u v r:=by
 constructor
 ·rw[Sem.run_bind,g1,Result.andThen_ok,b1,Sem.run_bind,h]
  rfl
 ·rw[Sem.run_bind,g2,Result.andThen_ok,b2,Sem.run_bind,h]
  rfl
theorem fR{x:PV}{u:Value}(hx:Rep G x u){ks:List LK}(hk:eB x.cells ks=true):
 (∃b,x=.bool b∧u=.bool b)∨(∃k n,x=.int k n∧u=.int k n)∨(∃s,x=.str s∧u=.string ⟨s.toArray⟩)∨∃cs us,x=.agg cs∧u=.agg us:=by
 have bad:∀c:PV,x.cells=[c]->(∀k,c.hasK k=false)->False:=fun c e hc=>by
  rw[e]at hk;cases ks with
  |nil=>simp[eB]at hk
  |cons k ks=>simp[eB,hc]at hk
 cases hx
 case bool=>exact .inl ⟨_,rfl,rfl⟩
 case int=>exact .inr (.inl ⟨_,_,rfl,rfl⟩)
 case str=>exact .inr (.inr (.inl ⟨_,rfl,rfl⟩))
 case agg=>exact .inr (.inr (.inr ⟨_,_,rfl,rfl⟩))
 all_goals exact(bad _ rfl (fun k=>by cases k <;> rfl)).elim
theorem eql_ok(hT:TyT P T)(hR:Rel G sg w){t:TypeId}{xo yo:Operand}{x y:PV}{u v:Value}(hx:Rep G x u)(hy:Rep G y v){r:Bool}(yc:Bool)(hyc:yc=true->∃c,yo=.const c)
 (hni:∀k n k' m,¬(x=.int k n∧y=.int k' m)) (hns:∀a b,¬(x=.str a∧y=.str b)) (h:eqlC T sg t yc x y=some r):eqRun P w t xo yo u v r:=by
 unfold eqlC at h;split at h
 ·rename_i e z es es' hd
  cases h;have hu:=bB (hT t (by rw[hd];rfl)) hd
  cases hy with
  |sl hz=>exact absurd rfl hz
  |nils =>
   cases hx with
   |nils=>exact bk (by rw[bP];exact fP 9999 hu _ _ _ _ _) rfl rfl rfl rfl
   |sl hz hf k us hk h1 hc hm hS hr _ =>
    have:(z==Z.n)=false:=by simpa using hz
    rw[this];exact bk (by rw[bP];exact fP 9999 hu _ _ _ _ _) rfl rfl rfl rfl
 ·rename_i e id n es' hd
  split at h <;> try (cases h;done)
  rename_i z e' k es frz hb;split at h <;> cases h
  rename_i hn;have hu:=bB (hT t (by rw[hd];rfl)) hd
  cases hy with
  |sl hz=>exact absurd rfl hz
  |nils =>
   cases hx with
   |ms hs hle ho hv =>
    have hok:=hR.box id _ _ hs hb;obtain⟨rfl,rfl,hz,hk,h1,⟨us,how,hL⟩,_⟩:=hok;have hv:=hv hn.symm;subst hv;cases r with
    |true =>
     obtain rfl:=hz.1 rfl;exact bk (by rw[bP];exact fP 9999 hu _ _ _ _ _) rfl rfl rfl rfl
    |false =>
     obtain⟨g,cap,cur,rfl,_⟩:=cG how (by intro e;rw[e]at hz;simp at hz)
     exact bk (by rw[bP];exact fP 9999 hu _ _ _ _ _) rfl rfl rfl rfl
 ·rename_i e id d n es' hd
  split at h <;> try (cases h;done)
  rename_i z e' k es frz hb;split at h <;> cases h
  rename_i hn;have hu:=bB (hT t (by rw[hd];rfl)) hd
  cases hy with
  |sl hz=>exact absurd rfl hz
  |nils =>
   obtain⟨hdm,v,us,hs,rfl,hz,hk,h1,how,hL,hS⟩:=gh hR hx hb hn;cases r with
   |true =>
    obtain rfl:=hz.1 rfl;obtain rfl:n=0:=by
     rcases how.2 with ⟨_,h⟩|⟨g,cap,cur,h,_⟩
     ·exact h
     ·cases h
    obtain rfl:d=0:=by omega
    exact bk (by rw[bP];exact fP 9999 hu _ _ _ _ _) rfl rfl rfl rfl
   |false =>
    obtain⟨g,cap,cur,rfl,_⟩:=cG how (by intro e;rw[e]at hz;simp at hz)
    exact bk (by rw[bP];exact fP 9999 hu _ _ _ _ _) rfl rfl rfl rfl
 ·rename_i k e hd
  cases h;have hu:=gZ (hT t (by rw[hd];rfl)) hd
  cases hx;cases hy
  exact bk (by rw[bP];exact ti 9999 hu _) rfl rfl rfl rfl
 ·rename_i k e id hd
  cases h;have hu:=gZ (hT t (by rw[hd];rfl)) hd
  cases hx;cases hy
  exact bk (by rw[bP];exact ti 9999 hu _) rfl rfl rfl rfl
 ·rename_i k e ks vs hd
  cases h;have hu:=gZ (hT t (by rw[hd];rfl)) hd
  cases hx;cases hy
  exact bk (by rw[bP];exact ti 9999 hu _) rfl rfl rfl rfl
 ·rename_i hd
  cases h;obtain⟨ud,hu,hud⟩:=und (hT t (by rw[hd];rfl))
  rw[hd]at hud;cases ud <;> simp[tdOf]at hud
  cases hx;cases hy
  exact bk (by rw[bP];exact eqi_fn0 9999 hu) rfl rfl rfl rfl
 ·rename_i f a b hd
  cases h;obtain⟨ud,hu,hud⟩:=und (hT t (by rw[hd];rfl))
  rw[hd]at hud;cases ud <;> simp[tdOf]at hud
  cases hx;cases hy
  exact bk (by rw[bP];exact eqi_fn1 9999 hu _ _ _) rfl rfl rfl rfl
 ·rename_i t' v' hd
  cases h;obtain⟨ms,hu⟩:=qD (hT t (by rw[hd];rfl)) hd
  cases hx;cases hy
  exact bk (by rw[bP];exact eqi_if1 9999 hu _ _) rfl rfl rfl rfl
 ·rename_i hd
  split at h <;> cases h
  rename_i hyc';obtain⟨c,rfl⟩:=hyc hyc';obtain⟨ms,hu⟩:=qD (hT t (by rw[hd];rfl)) hd
  cases hx;cases hy
  exact bk (by rw[bP];exact eqi_if0 9999 hu) (by simp[eqGuard]) (by simp[eqGuard]) rfl rfl
 ·split at h <;> try (cases h;done)
  rename_i hc;obtain⟨hok,hax,hay⟩:=hc;have hrun:=mq (hT t hok) hx hy h hax.symm hay.symm w;obtain⟨f,z,ud,i1,i2,i3,i4,i5,i6,i7,i8,i9,i10,i11⟩:=(hT t hok).ex;unfold eqT at h;split at h <;> try (cases h;done)
  rename_i ks hks;split at h <;> try (cases h;done)
  rename_i hkk;simp only[D3]at hkk;have hg:=gl (P:=P) 20 t (i11 ks hks).1 P.depth (depth_le P);rcases fR hx hkk.1 with ⟨b,rfl,rfl⟩|⟨k,n,rfl,rfl⟩|⟨s,rfl,rfl⟩|⟨cs,us,rfl,rfl⟩
  ·rcases fR hy hkk.2 with ⟨b',rfl,rfl⟩|⟨k',n',rfl,rfl⟩|⟨s',rfl,rfl⟩|⟨cs',us',rfl,rfl⟩ <;> exact bk hrun rfl rfl rfl rfl
  ·rcases fR hy hkk.2 with ⟨b',rfl,rfl⟩|⟨k',n',rfl,rfl⟩|⟨s',rfl,rfl⟩|⟨cs',us',rfl,rfl⟩
   ·exact bk hrun rfl rfl rfl rfl
   ·exact absurd ⟨rfl,rfl⟩ (hni _ _ _ _)
   ·exact bk hrun rfl rfl rfl rfl
   ·exact bk hrun rfl rfl rfl rfl
  ·rcases fR hy hkk.2 with ⟨b',rfl,rfl⟩|⟨k',n',rfl,rfl⟩|⟨s',rfl,rfl⟩|⟨cs',us',rfl,rfl⟩
   ·exact bk hrun rfl rfl rfl rfl
   ·exact bk hrun rfl rfl rfl rfl
   ·exact absurd ⟨rfl,rfl⟩ (hns _ _)
   ·exact bk hrun rfl rfl rfl rfl
  ·rcases fR hy hkk.2 with ⟨b',rfl,rfl⟩|⟨k',n',rfl,rfl⟩|⟨s',rfl,rfl⟩|⟨cs',us',rfl,rfl⟩
   ·exact bk hrun rfl rfl rfl rfl
   ·exact bk hrun rfl rfl rfl rfl
   ·exact bk hrun rfl rfl rfl rfl
   ·exact bk hrun (by simp[eqGuard,hg]) (by simp[eqGuard,hg]) rfl rfl
def DD:Operand->Bool
 |.const _=>true
 |_=>false
theorem oq(yo:Operand)(h:DD yo=true):∃c,yo=.const c:=by
 cases yo with
 |const c=>exact⟨c,rfl⟩
 |_=>cases h
theorem bin_ok(hT:TyT P T)(hR:Rel G sg w){op:BinOp}{t:TypeId}{xo yo:Operand}{x y v:PV}{u u':Value}(hx:Rep G x u)(hy:Rep G y u')(h:binC T sg op t (DD yo) x y=some v):
 ∃r,(do eqGuard op t xo yo u u';binOp op t u u':Sem Value).run P w=.ok r w∧Rep G v r:=by
 have eqg:∀k a k' b,(eqGuard op t xo yo (.int k a) (.int k' b)).run P w=.ok () w:=fun k a k' b=>by cases op <;> simp[eqGuard]
 have eqs:∀a b,(eqGuard op t xo yo (.string a) (.string b)).run P w=.ok () w:=fun a b=>by cases op <;> simp[eqGuard]
 unfold binC at h;split at h
 ·rename_i k a k' b
  split at h <;> try (cases h;done)
  rename_i hk;subst hk;cases hx with|int wa =>
  cases hy with|int wb =>
  rw[Sem.run_bind,eqg,Result.andThen_ok];split at h
  ·cases h;exact⟨_,by simp[binOp,Op.intArith],.int (wfw _ _)⟩
  ·cases h;exact⟨_,by simp[binOp,Op.intArith],.int (wfw _ _)⟩
  ·cases h;exact⟨_,by simp[binOp,Op.intArith],.int (wfw _ _)⟩
  ·split at h <;> cases h
   exact⟨_,by simp[binOp,Op.intDiv, *],.int (wfw _ _)⟩
  ·split at h <;> cases h
   exact⟨_,by simp[binOp,Op.intDiv, *],.int (wf_tmod wa ‹_›)⟩
  ·split at h <;> cases h
   rename_i r hr;refine⟨.bool r,?_,.bool⟩;cases op <;> simp[cmpC]at hr <;> subst hr <;> simp[binOp,Op.intCmp]
 ·rename_i a b
  cases hx with|str wa =>
  cases hy with|str wb =>
  rw[Sem.run_bind,eqs,Result.andThen_ok];have hcat:(⟨a.toArray⟩:ByteArray)++⟨b.toArray⟩=⟨(a++b).toArray⟩:=by
   apply ByteArray.ext;simp
  have hl:∀l:List UInt8,(⟨l.toArray⟩:ByteArray).toList=l:=fun l=>by rw[ByteArray.toList_eq]
  split at h
  ·split at h <;> cases h
   rename_i hlen;refine⟨.string ⟨(a++b).toArray⟩,?_,.str (by simpa using hlen)⟩
   have h2:¬((((⟨a.toArray⟩:ByteArray).size+(⟨b.toArray⟩:ByteArray).size:Nat):Int)>IntKind.i64.max):=by
    have:(⟨a.toArray⟩:ByteArray).size=a.length:=rfl
    have:(⟨b.toArray⟩:ByteArray).size=b.length:=rfl
    simp only[maxLen]at hlen;simp[IntKind.max,IntKind.signed,IntKind.bits]at *;omega
   simp only[binOp,Op.stringOp];rw[D5 h2,hcat];rfl
  ·cases h;exact⟨_,by simp[binOp,Op.stringOp,hl],.bool⟩
  ·cases h;exact⟨.bool (a != b),by simp[binOp,Op.stringOp,hl,bne],.bool⟩
  ·cases h
 ·rename_i hni hns
  split at h
  ·split at h <;> cases h
   rename_i r hr;have:=eql_ok (w:=w) hT hR hx hy (xo:=xo) (yo:=yo) (DD yo) (oq yo) (fun k n k' m ⟨a,b⟩=>hni k n k' m a b) (fun a b ⟨c,d⟩=>hns a b c d) hr
   exact⟨_,this.1,.bool⟩
  ·split at h <;> cases h
   rename_i r hr;have:=eql_ok (w:=w) hT hR hx hy (xo:=xo) (yo:=yo) (DD yo) (oq yo) (fun k n k' m ⟨a,b⟩=>hni k n k' m a b) (fun a b ⟨c,d⟩=>hns a b c d) hr
   exact⟨_,this.2,.bool⟩
  ·cases h
def unC(op:UnOp)(x:PV):Option PV :=
 match op,x with
 |.neg,.int k n=>some (.int k (k.wrap (0-n)))
 |.not,.bool b=>some (.bool (!b))
 |_,_=>none
theorem un_ok{op:UnOp}{x v:PV}{u:Value}(hx:Rep G x u)(h:unC op x=some v):∃r,(Op.unary op u).run P w=.ok r w∧Rep G v r:=by
 unfold unC at h;split at h <;> cases h
 ·cases hx;exact⟨_,by simp[Op.unary,Op.intArith],.int (wfw _ _)⟩
 ·cases hx;exact⟨_,by simp[Op.unary],.bool⟩
end
def intK(i:TyI)(k:PV):Bool :=
 match i.d,k with
 |.int q,.int q' _=>q==q'
 |_,_=>false
def eP(i:TyI)(k:PV):Bool:=(i.d.agg&&k.ag&&(match i.kinds with|some ks=>eB k.cells ks|none=>false))||intK i k
def e9(i:TyI)(k:PV):List PV->Nat->Option (Option Nat)
 |[],_=>some none
 |x::xs,j=>if(x.ag==k.ag)=true then match eqT i k x,e9 i k xs (j+1)with
  |some true,some none=>some (some j)
  |some false,r=>r
  |_,_=>none
  else none
def xc(sg:List Box):PV->Option (List PV×List PV)
 |.nilm=>some ([],[])
 |.im ks vs=>some (ks,vs)
 |.mp id=>match sg[id]? with
  |some (.map ks vs _)=>some (ks,vs)
  |_=>none
 |_=>none
def eI(T:TypeId->TyI)(sg:List Box)(t:TypeId)(m k:PV)(ok:Bool):Option PV :=
 match (T t).d with
 |.map kt e=>if eP (T kt) k=true∧(T e).d.ok=true then match xc sg m with
  |some (ks,vs)=>match e9 (T kt) k ks 0 with
   |some (some j)=>match vs[j]? with
    |some v=>some (if ok then .tuple [v,.bool true]else v)
    |none=>none
   |some none=>some (if ok then .tuple [(T e).zeroE,.bool false]else(T e).zeroE)
   |none=>none
  |none=>none
  else none
 |_=>none
def lD(fid:Nat):Option (PV×Eff):=some (.mp fid,some (fid,.map [] [] false))
def cN(T:TypeId->TyI)(sg:List Box)(t:TypeId)(m k v:PV):Option (Nat×Box) :=
 match (T t).d,m with
 |.map kt _,.mp id=>if eP (T kt) k=true then match sg[id]? with
  |some (.map ks vs false)=>match e9 (T kt) k ks 0 with
   |some (some j)=>some (id,.map ks (vs.set j v) false)
   |some none=>some (id,.map (ks++[k]) (vs++[v]) false)
   |none=>none
  |_=>none
  else none
 |_,_=>none
section
variable {P:Program} {T:TypeId->TyI} {G:Gh} {sg:List Box} {w:World}
theorem pN{k:PV}{u:Value}(hk:Rep G k u)(ha:k.ag=true):∃cs us,k=.agg cs∧u=.agg us∧RepL G cs us:=by
 cases hk <;> simp[PV.ag]at ha
 exact⟨_,_,rfl,rfl,‹_›,‹_›⟩
theorem wide_of{t:TypeId}{i:TyI}(hi:TyOk P t i)(ha:i.d.agg=true):(match P.underlying t with|some (.array _ _)|some (.struct _)=>true|_=>false)=true:=by
 obtain⟨f,z,ud,h1,h2,h3,h4,h5,h6,h7,_⟩:=hi.ex;rw[h6];rw[←h7]at ha;cases ud <;> simp[tdOf,TyD.agg]at ha <;> rfl
theorem ju{i:TyI}{k:PV}(h:intK i k=true):∃q a,i.d=.int q∧k=.int q a:=by
 unfold intK at h;split at h
 ·rename_i q q' a hd
  have:q=q':=by simpa using h
  subst this;exact⟨q,a,hd,rfl⟩
 ·cases h
theorem rL{i:TyI}{k:PV}(h:eP i k=true):i.d.agg=k.ag:=by
 unfold eP at h;rcases Fk _ _▸h with h|h
 ·simp only[D3]at h
  rw[h.1.1,h.1.2]
 ·obtain⟨q,a,h1,rfl⟩:=ju h
  rw[h1];rfl
theorem t8{i:TyI}{k:PV}(h:eP i k=true):i.d.ok=true:=by
 unfold eP at h;rcases Fk _ _▸h with h|h
 ·simp only[D3]at h
  have:=h.1.1
  cases hx:i.d <;> rw[hx]at this <;> simp[TyD.agg,TyD.ok]at this ⊢
 ·obtain⟨q,a,h1,rfl⟩:=ju h
  rw[h1];rfl
theorem vq{t:TypeId}{i:TyI}(hi:TyOk P t i){k:PV}{u:Value}(hk:Rep G k u)(h:eP i k=true)(em:Bool):(Instr.checkKey em 10000 t u).run P w=.ok () w:=by
 unfold eP at h;rcases Fk _ _▸h with h|h
 rotate_left
 ·obtain⟨q,a,h1,rfl⟩:=ju h
  cases hk;exact Go.MapKept.run_checkKey (k:=.int q a) (o8 hi h1) (show q=q from rfl) em 9999
 simp only[D3]at h;obtain⟨⟨ha,hka⟩,hks⟩:=h;split at hks <;> try (cases hks;done)
 rename_i ks hkd;obtain⟨cs,us,rfl,rfl,hL⟩:=pN hk hka;obtain⟨f,z,ud,h1,h2,h3,h4,h5,h6,h7,h8,h9,h10,h11⟩:=hi.ex;obtain⟨hkt,hkn⟩:=h11 ks hkd;have ex:=fI (G:=G) 20 t ks cs us.toList hkn hks (by simpa using hL.1) (fun j c u hc hu=>hL.2 j c u hc (by simpa using hu))
 have:=run_checkKey_deep em (10000-20) 20 t hkt w 20 (.agg us) _ (mZ hi hk hkd hks (by rw[ha];rfl)) ex
 exact this
theorem j6{i:TyI}{k:PV}:∀{ks:List PV} {j:Nat},e9 i k ks j=some none->∀x∈ks,x.ag=k.ag∧eqT i k x=some false
 |[],_,_,x,hx=>by cases hx
 |y::ks,j,h,x,hx=>by
  unfold e9 at h;split at h <;> try (cases h;done)
  rename_i hy;have hy:=eq_of_beq hy;split at h <;> try (cases h;done)
  rename_i hf;rcases D6.1 hx with rfl|hx
  ·exact⟨hy,hf⟩
  ·exact j6 h x hx
theorem nU{i:TyI}{k:PV}:∀{ks:List PV} {j0 j:Nat},e9 i k ks j0=some (some j)->∃(j':Nat) (x:PV),j=j0+j'∧ks[j']?=some x∧x.ag=k.ag∧eqT i k x=some true∧∀(m:Nat) (y:PV),m≠j'->ks[m]?=some y->y.ag=k.ag∧eqT i k y=some false
 |[],_,_,h=>by cases h
 |y::ks,j0,j,h=>by
  unfold e9 at h;split at h <;> try (cases h;done)
  rename_i hy;have hy:=eq_of_beq hy;split at h <;> try (cases h;done)
  ·rename_i he hr
   cases h;refine⟨0,y,rfl,rfl,hy,he,fun m z hm hz=>?_⟩
   cases m with
   |zero=>exact absurd rfl hm
   |succ m=>exact j6 hr z (DU (by simpa using hz))
  ·rename_i he
   obtain⟨j',x,e1,e2,e3,e4,e5⟩:=nU h;refine⟨j'+1,x,by omega,by simpa using e2,e3,e4,fun m z hm hz=>?_⟩
   cases m with
   |zero=>cases hz;exact⟨hy,he⟩
   |succ m=>exact e5 m z (by omega) (by simpa using hz)
theorem ask_no{t:TypeId}{i:TyI}{k:PV}(hi:TyOk P t i)(ha:i.d.agg=k.ag){u:Value}(hk:Rep G k u):
 ∀(es:List MapEntry) (j0:Nat),(∀e∈es,∃x,Rep G x e.key∧x.ag=k.ag∧eqT i k x=some false)->(Instr.findAsking t u es j0).run P w=.ok none w
 |[],j0,_=>by simp[Instr.findAsking]
 |e::es,j0,h=>by
  obtain⟨x,hx,hxa,he⟩:=h e (DV ..);have h0:=mq hi hk hx he (ha) (by rw[ha,hxa]) w
  simp[Instr.findAsking,h0,ask_no hi ha hk es (j0+1) fun e he=>h e (DW _ he)]
theorem AM{t:TypeId}{i:TyI}{k:PV}(hi:TyOk P t i)(ha:i.d.agg=k.ag){u:Value}(hk:Rep G k u){e:MapEntry}{x:PV}(hx:Rep G x e.key)(hxa:x.ag=k.ag)(he:eqT i k x=some true)(B:List MapEntry):
 ∀(A:List MapEntry) (j0:Nat),(∀e∈A,∃x,Rep G x e.key∧x.ag=k.ag∧eqT i k x=some false)->(Instr.findAsking t u (A++e::B) j0).run P w=.ok (some (j0+A.length,e.val)) w
 |[],j0,_=>by
  have h0:=mq hi hk hx he (ha) (by rw[ha,hxa]) w
  simp[Instr.findAsking,h0]
 |a::A,j0,h=>by
  obtain⟨y,hy,hya,hye⟩:=h a (DV ..);have h0:=mq hi hk hy hye (ha) (by rw[ha,hya]) w
  have:=AM hi ha hk hx hxa he B A (j0+1) fun e he=>h e (DW _ he)
  simp[Instr.findAsking,h0,this];omega
theorem oW{t:TypeId}{i:TyI}{k:PV}(hi:TyOk P t i)(ha:i.d.agg=k.ag){u:Value}(hk:Rep G k u){ks:List PV}{ls es:List MapEntry}(hp:ls.Perm es){r:Option Nat}(hl:ks.length=ls.length)
 (hr:∀(j:Nat) (e:MapEntry) (x:PV),ls[j]?=some e->ks[j]?=some x->Rep G x e.key) (h:e9 i k ks 0=some r) :
  match r with
  |none=>(Instr.findAsking t u es 0).run P w=.ok none w
  |some j=>∃i' e x,ls[j]?=some e∧ks[j]?=some x∧x.ag=k.ag∧eqT i k x=some true∧es[i']?=some e∧(Instr.findAsking t u es 0).run P w=.ok (some (i',e.val)) w:=by
 cases r with
 |none =>
  refine ask_no hi ha hk es 0 fun e he=>?_
  obtain⟨j,hj,rfl⟩:=EX (hp.mem_iff.2 he);have hjk:j<ks.length:=by omega
  exact⟨ks[j],hr j _ _ (DT hj) (DT hjk),j6 h _ (E5 hjk)⟩
 |some j =>
  obtain⟨j',x,e1,e2,e3,e4,e5⟩:=nU h;have hj:j=j':=by omega
  subst hj;have hjl:j<ls.length:=by rw[←hl];exact(DR.1 e2).1
  have hlj:ls[j]?=some ls[j]:=DT hjl;obtain⟨A,B,hAB⟩:=List.append_of_mem (hp.mem_iff.1 (E5 hjl));have hx:=hr j _ x hlj e2;have hno:∀e∈A,∃x,Rep G x e.key∧x.ag=k.ag∧eqT i k x=some false:=fun a ha'=>by
   have h1:ls=ls.take j++ls[j]::ls.drop (j+1):=by simp
   have h2:(ls.take j++ls.drop (j+1)).Perm (A++B):=by
    have h3:(ls.take j++ls[j]::ls.drop (j+1)).Perm (A++ls[j]::B):=by rw[←h1,←hAB];exact hp
    exact((F8.symm.trans h3).trans F8).cons_inv
   have hm:a∈ls.take j++ls.drop (j+1):=h2.mem_iff.2 (EY _ ha');obtain⟨m,hmj,hm⟩:∃m,m≠j∧ls[m]?=some a:=by
    rcases Ez.1 hm with hm|hm
    ·obtain⟨m,hm⟩:=FT hm
     rw[El]at hm;split at hm
     ·exact⟨m,by omega,hm⟩
     ·cases hm
    ·obtain⟨m,hm⟩:=FT hm
     rw[EU]at hm;exact⟨_,by omega,hm⟩
   have hmk:m<ks.length:=by rw[hl];exact(DR.1 hm).1
   exact⟨ks[m],hr m a _ hm (DT hmk),e5 m _ hmj (DT hmk)⟩
  refine⟨A.length,ls[j],x,hlj,e2,e3,e4,by rw[hAB];simp,?_⟩
  have:=AM (w:=w) hi ha hk hx e3 e4 B A 0 hno
  rw[hAB];simpa using this
theorem set_perm{α:Type}{l r:List α}{i j:Nat}{a b:α}(hp:l.Perm r)(hi:l[i]?=some a)(hj:r[j]?=some a):(l.set i b).Perm (r.set j b):=by
 have f:∀(l:List α) (i:Nat),l[i]?=some a->∃A B,l=A++a::B∧l.set i b=A++b::B:=fun l i h=>by
  obtain⟨hi,e⟩:=DR.1 h;refine⟨l.take i,l.drop (i+1),by rw[←e];simp,by rw[GE,DZ hi]⟩
 obtain⟨A,B,e1,e2⟩:=f l i hi;obtain⟨C,D,e3,e4⟩:=f r j hj;rw[e2,e4];rw[e1,e3]at hp;have:(A++B).Perm (C++D):=((F8.symm.trans hp).trans F8).cons_inv
 exact(F8.trans (this.cons b)).trans F8.symm
theorem NS(hR:Rel G sg w){m:PV}{u:Value}(hm:Rep G m u){ks vs:List PV}(h:xc sg m=some (ks,vs)):
 ∃(es:Array MapEntry) (ls:List MapEntry),(u=.map none∧es=#[]∨∃g c,u=.map (some g)∧w.heap[g]?=some (.map es c))∧ls.Perm es.toList∧ks.length=ls.length∧vs.length=ls.length ∧
  (∀(j:Nat) (e:MapEntry) (k:PV),ls[j]?=some e->ks[j]?=some k->Rep G k e.key)∧(∀(j:Nat) (e:MapEntry) (v:PV),ls[j]?=some e->vs[j]?=some v->Rep G v e.val):=by
 unfold xc at h;split at h <;> try (cases h;done)
 ·cases h;cases hm
  exact⟨#[],[],.inl ⟨rfl,rfl⟩,.refl _,rfl,rfl,fun j e k h=>by simp at h,fun j e k h=>by simp at h⟩
 ·cases h
  cases hm with
  |im hs hp hk hv hrk hrv=>exact⟨_,_,.inr ⟨_,_,rfl,hR.stM _ _ _ hs⟩,hp,hk,hv,hrk,hrv⟩
 ·rename_i id
  split at h <;> cases h
  rename_i hb;cases hm with
  |mp hs =>
   obtain⟨_,_,es,c,ls,hh,hp,h1,h2,h3,h4,_⟩:=hR.box id _ _ hs hb;exact⟨es,ls,.inr ⟨_,_,rfl,hh⟩,hp,h1,h2,h3,h4⟩
theorem ka{g:Nat}{es:Array MapEntry}{c:Nat}(h:w.heap[g]?=some (.map es c)):(getObj g).run P w=.ok (.map es c) w:=by
 simp[getObj,Sem.run,h]
theorem qi{t:TypeId}{i:TyI}(hi:TyOk P t i):∃u,(zeroValue t).run P w=.ok u w∧Rep G i.zeroE u:=by
 obtain⟨f,z,ud,h1,h2,h3,h4,h5,h6,h7,h8,h9,h10,_⟩:=hi.ex;refine⟨z,by simp[zeroValue,typeInfo,h1,h4],?_⟩
 have hL:=h8 G;unfold TyI.zeroE;split
 ·rename_i ha
  rw[h10]at ha;cases z <;> simp[vAgg]at ha
  exact .agg (by simpa[Value.cells]using hL.1) h9 (by simpa[Value.cells]using hL.2)
 ·rename_i ha
  rw[h10]at ha;have hz:z.cells=#[z]:=by cases z <;> simp[vAgg]at ha <;> rfl
  have hl:i.zero.length=1:=by
   have:=hL.1
   rw[hz]at this;simpa using this.symm
  obtain⟨c,hc⟩:=GD.1 hl;rw[hc];exact hL.2 0 c z (by simp[hc]) (by simp[hz])
theorem rx{a b:PV}{u v:Value}(ha:Rep G a u)(hb:Rep G b v):Rep G (.tuple [a,b]) (.tuple #[u,v]):=by
 refine .tuple rfl fun j c x hc hx=>?_
 match j,hc,hx with
 |0,hc,hx=>simp at hc hx;subst hc;subst hx;exact ha
 |1,hc,hx=>simp at hc hx;subst hc;subst hx;exact hb
 |j+2,hc,_=>simp at hc
theorem vg{t:TypeId}{i:TyI}(hi:TyOk P t i){q:IntKind}{a:Int}(hd:i.d=.int q)(hk:Rep G (.int q a) (.int q a)):∀(es:List MapEntry) (j:Nat),(∀e∈es,∃x b,Rep G x e.key∧x.ag=false∧eqT i (.int q a) x=some b) ->
 ∃r,Instr.findNow (.int q) (.int q a) es j=some r∧(Instr.findAsking t (.int q a) es j).run P w=.ok r w
 |[],j,_=>⟨none,rfl,by simp[Instr.findAsking]⟩
 |e::es,j,h=>by
  obtain⟨x,b,hx,hxa,he⟩:=h e (DV ..);have h0:=mq hi hk hx he (by rw[hd];rfl) (by rw[hd,hxa];rfl) w
  have hform:∃c,e.key=.int q c∧b=(a==c):=by
   unfold eqT at he;split at he <;> try (cases he;done)
   split at he <;> try (cases he;done)
   have hc:x.cells=[x]:=by cases x <;> first|rfl|(simp[PV.ag]at hxa)
   rw[hc]at he;generalize e.key=kv at hx;cases hx <;> simp[eqC,PV.cells]at he
   obtain⟨rfl,rfl⟩:=he;exact⟨_,rfl,rfl⟩
  obtain⟨c,hc,rfl⟩:=hform;cases hac:a==c with
  |true =>
   rw[hac]at h0;exact⟨some (j,e.val),by simp[Instr.findNow,Instr.sameNow,hc,hac],by simp[Instr.findAsking,h0]⟩
  |false =>
   rw[hac]at h0;obtain⟨r,h1,h2⟩:=vg hi hd hk es (j+1) fun e he=>h e (DW _ he)
   exact⟨r,by simp[Instr.findNow,Instr.sameNow,hc,hac,h1],by simp[Instr.findAsking,h0,h2]⟩
theorem m9{i:TyI}{k:PV}:∀{ks:List PV} {j:Nat} {r:Option Nat},e9 i k ks j=some r->∀x∈ks,x.ag=k.ag∧∃b,eqT i k x=some b
 |[],_,_,_,x,hx=>by cases hx
 |y::ks,j,r,h,x,hx=>by
  unfold e9 at h;split at h <;> try (cases h;done)
  rename_i hy;have hy:=eq_of_beq hy;split at h <;> try (cases h;done)
  ·rename_i he hr
   rcases D6.1 hx with rfl|hx
   ·exact⟨hy,_,he⟩
   ·exact m9 hr x hx
  ·rename_i he
   rcases D6.1 hx with rfl|hx
   ·exact⟨hy,_,he⟩
   ·exact m9 h x hx
theorem kP{t:TypeId}{i:TyI}{k:PV}(hi:TyOk P t i)(hkey:eP i k=true){u:Value}(hk:Rep G k u){ks:List PV}{ls es:List MapEntry}(hp:ls.Perm es)(hl:ks.length=ls.length)
 (hr:∀(j:Nat) (e:MapEntry) (x:PV),ls[j]?=some e->ks[j]?=some x->Rep G x e.key) (h:∃r,e9 i k ks 0=some r):(Instr.findKey t u es).run P w=(Instr.findAsking t u es).run P w:=by
 unfold eP at hkey;rcases Fk _ _▸hkey with hkey|hkey
 ·simp only[D3]at hkey
  exact run_findKey_eq w (wide_of hi hkey.1.1) u es
 ·obtain⟨q,a,h1,rfl⟩:=ju hkey
  cases hk with
  |int hwf =>
  obtain⟨r,hf⟩:=h;obtain⟨r',e1,e2⟩:=vg (P:=P) (G:=G) (w:=w) hi h1 (.int hwf) es 0 fun e he=>by
   obtain⟨j,hj,rfl⟩:=EX (hp.mem_iff.2 he);have hjk:j<ks.length:=by omega
   obtain⟨hx1,b,hx2⟩:=m9 hf ks[j] (E5 hjk);exact⟨ks[j],b,hr j _ _ (DT hj) (DT hjk),hx1,hx2⟩
  rw[Go.MapKept.run_findKey (o8 hi h1) e1,e2]
theorem yR(hT:TyT P T)(hR:Rel G sg w){t:TypeId}{m k v:PV}{mu ku:Value}(hm:Rep G m mu)(hk:Rep G k ku){ok:Bool}(h:eI T sg t m k ok=some v):
 ∃u,(Instr.lookup t mu ku ok).run P w=.ok u w∧Rep G v u:=by
 unfold eI at h;split at h <;> try (cases h;done)
 rename_i kt e hd;split at h <;> try (cases h;done)
 rename_i hc;obtain⟨hkey,he⟩:=hc;split at h <;> try (cases h;done)
 rename_i ks vs hmc;have hu:=gZ (hT t (by rw[hd];rfl)) hd
 have hka:=rL hkey;have hikt:=hT kt (t8 hkey);obtain⟨es,ls,hform,hp,l1,l2,r1,r2⟩:=NS hR hm hmc;have hchk:∀em,(Instr.checkKey em 10000 kt ku).run P w=.ok () w:=vq hikt hk hkey;obtain⟨z,hz,hzr⟩:=qi (G:=G) (w:=w) (hT e he);have hfr:∃r,e9 (T kt) k ks 0=some r:=by
  cases hq:e9 (T kt) k ks 0 with
  |none=>rw[hq]at h;cases h
  |some r=>exact⟨r,rfl⟩
 have hfind:=kP (P:=P) (w:=w) hikt hkey hk hp l1 r1 hfr;have hpre:∀(r:Option (Nat×Value)),(Instr.findAsking kt ku es.toList).run P w=.ok r w->(Instr.lookup t mu ku ok).run P w=(do
  let (v,okk) ←match r with
   |some (_,v)=>pure (v,true)
   |none=>do pure (←zeroValue e,false)
  pure (if ok then .tuple #[v,.bool okk]else v):Sem Value).run P w:=by
  intro r hr;rcases hform with ⟨rfl,rfl⟩|⟨g,c,rfl,hg⟩
  ·simp only[Instr.lookup,Sem.run_bind,run_underlying hu,Result.andThen_ok,Sem.run_pure,hchk,hfind,hr]
   cases r <;> simp
  ·simp only[Instr.lookup,Sem.run_bind,run_underlying hu,Result.andThen_ok,Sem.run_pure,hchk,hfind,hr,ka hg]
   cases r <;> simp
 split at h <;> try (cases h;done)
 ·rename_i j hf
  split at h <;> cases h
  rename_i x hx;obtain⟨i',e',x',e1,e2,e3,e4,_,e5⟩:=oW (w:=w) hikt hka hk hp l1 r1 hf;have hv:=r2 j e' x e1 hx;rw[hpre _ e5];cases ok
  ·exact⟨e'.val,by simp,hv⟩
  ·exact⟨.tuple #[e'.val,.bool true],by simp,rx hv .bool⟩
 ·rename_i hf
  cases h;have:=oW (w:=w) hikt hka hk hp l1 r1 hf
  dsimp only at this;rw[hpre _ this];cases ok
  ·exact⟨z,by simp[hz],hzr⟩
  ·exact⟨.tuple #[z,.bool false],by simp[hz],rx hzr .bool⟩
theorem wn(hR:Rel G sg w){fid:Nat}(hd:jT sg fid){t:TypeId}{v:PV}{ef:Eff}(h:lD fid=some (v,ef)):
 ∃u w' G',(Instr.makeMap t none).run P w=.ok u w'∧Rel G' (Lm sg ef) w'∧G.le G'∧G'.dfr=G.dfr∧Rep G' v u:=by
 cases h;obtain⟨G',a,b,c,d⟩:=hR.fill (b:=.map [] [] false) (c8 w (.map #[] 0)) hd (s:=.blk w.heap.size) (fun g hg=>by cases hg;exact DS _) (fun G' hle hw hS hM hdf=>⟨hw▸hR.base_le,fun _=>by
  rw[hM];exact(hR.fresh w.heap.size (DS _)).2,#[],0,[],heap_alloc_new w _,.refl _,rfl,rfl,fun j e k h=>by simp at h,fun j e k h=>by simp at h,fun i j e e' h=>by simp at h,fun i e h=>by simp at h⟩)
 exact⟨.map (some w.heap.size),_,G',by simp[Instr.makeMap,run_newObj_alloc],a,b,c,.mp d⟩
theorem lP:∀{cs ds:List PV} {us vs:List Value},eqC cs ds=some true->us.length=cs.length->vs.length=ds.length->(∀(j:Nat) (c:PV) (u:Value),cs[j]?=some c->us[j]?=some u->Rep G c u) ->
 (∀(j:Nat) (c:PV) (u:Value),ds[j]?=some c->vs[j]?=some u->Rep G c u)->us=vs∧∀n,∀p∈us.zip vs,Instr.sameBits n p.1 p.2=true
 |cs,ds,us,vs,h,l1,l2,r1,r2=>by
  unfold eqC at h;split at h
  ·have:us=[]:=EB l1
   have:vs=[]:=EB l2
   subst_vars
   exact⟨rfl,fun n p hp=>by simp at hp⟩
  ·rename_i a r b s
   simp only[EC]at h;obtain⟨q,hq,hab⟩:=h;simp only[D3,FR]at hab;obtain⟨rfl,rfl⟩:=hab
   match us,vs,l1,l2,r1,r2 with
   |u::us,v::vs,l1,l2,r1,r2 =>
    have e1:=r1 0 _ u rfl rfl;have e2:=r2 0 _ v rfl rfl;cases e1;cases e2
    obtain⟨rfl,ih⟩:=lP hq (by simpa using l1) (by simpa using l2) (fun j c u h1 h2=>r1 (j+1) c u (by simpa using h1) (by simpa using h2)) (fun j c u h1 h2=>r2 (j+1) c u (by simpa using h1) (by simpa using h2))
    refine⟨rfl,fun n p hp=>?_⟩
    rcases D6.1 (by simpa only[Gs]using hp)with rfl|hp
    ·cases n <;> simp[Instr.sameBits]
    ·exact ih n p hp
  ·rename_i k a r k' b s
   split at h <;> try (cases h;done)
   subst_vars
   simp only[EC]at h;obtain⟨q,hq,hab⟩:=h;simp only[D3,FR]at hab;obtain⟨rfl,rfl⟩:=hab
   match us,vs,l1,l2,r1,r2 with
   |u::us,v::vs,l1,l2,r1,r2 =>
    have e1:=r1 0 _ u rfl rfl;have e2:=r2 0 _ v rfl rfl;cases e1;cases e2
    obtain⟨rfl,ih⟩:=lP hq (by simpa using l1) (by simpa using l2) (fun j c u h1 h2=>r1 (j+1) c u (by simpa using h1) (by simpa using h2)) (fun j c u h1 h2=>r2 (j+1) c u (by simpa using h1) (by simpa using h2))
    refine⟨rfl,fun n p hp=>?_⟩
    rcases D6.1 (by simpa only[Gs]using hp)with rfl|hp
    ·cases n <;> simp[Instr.sameBits]
    ·exact ih n p hp
  ·rename_i a r b s
   simp only[EC]at h;obtain⟨q,hq,hab⟩:=h;simp only[D3,FR]at hab;obtain⟨rfl,rfl⟩:=hab
   match us,vs,l1,l2,r1,r2 with
   |u::us,v::vs,l1,l2,r1,r2 =>
    have e1:=r1 0 _ u rfl rfl;have e2:=r2 0 _ v rfl rfl;cases e1;cases e2
    obtain⟨rfl,ih⟩:=lP hq (by simpa using l1) (by simpa using l2) (fun j c u h1 h2=>r1 (j+1) c u (by simpa using h1) (by simpa using h2)) (fun j c u h1 h2=>r2 (j+1) c u (by simpa using h1) (by simpa using h2))
    refine⟨rfl,fun n p hp=>?_⟩
    rcases D6.1 (by simpa only[Gs]using hp)with rfl|hp
    ·cases n <;> simp[Instr.sameBits,beq_toListBytes]
    ·exact ih n p hp
  ·cases h
theorem uk{i:TyI}{k x:PV}{ku xu:Value}(hkey:eP i k=true)(hk:Rep G k ku)(hx:Rep G x xu)(hb:x.ag=k.ag)(h:eqT i k x=some true):ku=xu∧Instr.sameBits 10000 xu ku=true:=by
 unfold eP at hkey;rcases Fk _ _▸hkey with hkey|hkey
 rotate_left
 ·obtain⟨q,a,h1,rfl⟩:=ju hkey
  have hxa:x.ag=false:=hb;unfold eqT at h;split at h <;> try (cases h;done)
  split at h <;> try (cases h;done)
  have hc:x.cells=[x]:=by cases x <;> first|rfl|(simp[PV.ag]at hxa)
  rw[hc]at h;cases hk;cases hx <;> simp[eqC,PV.cells]at h
  obtain⟨rfl,rfl⟩:=h;exact⟨rfl,by simp[Instr.sameBits]⟩
 simp only[D3]at hkey;have ha:=hkey.1.2;rw[ha]at hb;obtain⟨cs,us,rfl,rfl,hL⟩:=pN hk ha;obtain⟨ds,vs,rfl,rfl,hM⟩:=pN hx hb;unfold eqT at h;split at h <;> try (cases h;done)
 split at h <;> try (cases h;done)
 obtain⟨e,hs⟩:=lP (G:=G) (us:=us.toList) (vs:=vs.toList) h (by simpa[PV.cells]using hL.1) (by simpa[PV.cells]using hM.1) (fun j c u h1 h2=>hL.2 j c u h1 (by simpa using h2)) (fun j c u h1 h2=>hM.2 j c u h1 (by simpa using h2))
 have e':us=vs:=Array.ext' e;subst e';have:Instr.sameBits 10000 (.agg us) (.agg us)=true:=by
  show Instr.sameBits (9999+1) (.agg us) (.agg us)=true;simp only[Instr.sameBits,Fe,EJ,D7];exact fun p hp=>hs 9999 p hp
 exact⟨rfl,this⟩
theorem BM{i:TyI}{k x:PV}{ku xu:Value}(hkey:eP i k=true)(hk:Rep G k ku)(hx:Rep G x xu)(hb:x.ag=k.ag)(h:eqT i k x=some true):(Instr.keyThatStays xu ku).run P w=.ok ku w:=by
 simp[Instr.keyThatStays,(uk hkey hk hx hb h).2]
theorem nV{g:Nat}{es:Array MapEntry}{c:Nat}(h:w.heap[g]?=some (.map es c))(o':Obj):(setObj g o').run P w=.ok () (w.putObj g o'):=by
 simp[setObj,Sem.run,h,World.putObj]
theorem kW(hT:TyT P T)(hR:Rel G sg w){t:TypeId}{m k v:PV}{mu ku vu:Value}(hm:Rep G m mu)(hk:Rep G k ku)(hv:Rep G v vu){r:Nat×Box}(h:cN T sg t m k v=some r):
 ∃w',(Instr.mapUpdate t mu ku vu).run P w=.ok () w'∧Rel G (sg.set r.1 r.2) w':=by
 unfold cN at h;split at h <;> try (cases h;done)
 rename_i kt e id hd;split at h <;> try (cases h;done)
 rename_i hkey;split at h <;> try (cases h;done)
 rename_i ks vs hb;have hu:=gZ (hT t (by rw[hd];rfl)) hd
 have hka:=rL hkey;have hikt:=hT kt (t8 hkey);have hchk:∀em,(Instr.checkKey em 10000 kt ku).run P w=.ok () w:=vq hikt hk hkey;cases hm with
 |mp hs =>
  rename_i g;obtain⟨hB,hSM,es,c,ls,hh,hp,l1,l2,r1,r2,b1,b2⟩:=hR.box id _ _ hs hb;have hset:=cn hs;have hfr:∃r,e9 (T kt) k ks 0=some r:=by
   cases hq:e9 (T kt) k ks 0 with
   |none=>rw[hq]at h;cases h
   |some r=>exact⟨r,rfl⟩
  have hfind:=kP (P:=P) (w:=w) hikt hkey hk hp l1 r1 hfr;have fin:∀(o':Obj) (b':Box),(∀us T fz,o'≠.cells us T fz)->BoxOk G (w.putObj g o') (.blk g) b'->Rel G (sg.set id b') (w.putObj g o'):=by
   intro o' b' _ hok;rw[←hset]at hok ⊢;refine hR.change hs (Slot.le_refl _) (grownBy_putObj' w g o') (fun g' e=>.inl e) (fun g' e=>by cases e;exact hB) (fun g' e o v hS=>?_) (fun g' e es' c' hM=>?_) (fun g' e=>kH hR hs hb e) hok
   ·cases e
    have:=hR.st _ _ _ hS
    simp[World.cell?,hh]at this
   ·cases e
    rw[hSM rfl]at hM;cases hM
  have hlt:=ba hh;split at h <;> try (cases h;done)
  ·rename_i j hf
   cases h;obtain⟨i0,e',x',e0,e2,e3,e4,e1,e5⟩:=oW (w:=w) hikt hka hk hp l1 r1 hf;have e1':es[i0]?=some e':=by simpa using e1
   have hst:=BM (P:=P) (w:=w) hkey hk (r1 j e' x' e0 e2) e3 e4;refine⟨_,by simp only[Instr.mapUpdate,Sem.run_bind,run_underlying hu,Result.andThen_ok,ka hh,hchk,hfind,e5,e1',F3,Option.getD_some,hst];exact nV hh _,fin _ _ (fun _ _ _=>by simp) ?_⟩
   have hmod:(es.modify i0 fun e=>{ e with key:=ku,val:=vu }).toList=es.toList.set i0 { e' with key:=ku,val:=vu }:=by
    apply E6;intro m;rw[Fw,Fx];by_cases hm:i0=m
    ·subst hm
     rw[DZ rfl,e1',D4 (DR.1 e1).1];rfl
    ·rw[D5 hm,D8 hm,Fw]
   have hjl:j<ls.length:=(DR.1 e0).1;refine⟨hB,hSM,_,c,ls.set j { e' with key:=ku,val:=vu },World.putObj_heap_same hlt,by rw[hmod];exact set_perm hp e0 e1,by simpa using l1,by simpa using l2,fun i e x he hx=>?_,fun i e x he hx=>?_,fun i i' e e'' he he' hlt'=>?_,fun i e he=>?_⟩
   ·by_cases hij:j=i
    ·subst hij
     rw[D4 hjl]at he;cases he;rw[e2]at hx;cases hx;have:=r1 j e' x' e0 e2
     have e6:=(uk hkey hk this e3 e4).1;rw[e6];exact this
    ·rw[D8 hij]at he
     exact r1 i e x he hx
   ·by_cases hij:j=i
    ·subst hij
     rw[D4 hjl]at he;cases he;rw[D4 (by rw[l2];exact hjl)]at hx
     cases hx;exact hv
    ·rw[D8 hij]at hx he
     exact r2 i e x he hx
   ·have bo:∀(i:Nat) (e:MapEntry),(es.modify i0 fun e=>{ e with key:=ku,val:=vu })[i]?=some e->∃e0,es[i]?=some e0∧e0.born=e.born:=fun i e he=>by
     rw[Fx]at he;split at he
     ·simp only[EC]at he
      obtain⟨a,ha,rfl⟩:=he;exact⟨a,ha,rfl⟩
     ·exact⟨e,he,rfl⟩
    obtain⟨x1,y1,z1⟩:=bo _ _ he;obtain⟨x2,y2,z2⟩:=bo _ _ he';rw[←z1,←z2];exact b1 _ _ _ _ y1 y2 hlt'
   ·rw[Fx]at he
    split at he
    ·simp only[EC]at he
     obtain⟨a,ha,rfl⟩:=he;exact b2 i a ha
    ·exact b2 _ _ he
  ·rename_i hf
   cases h;have hfk:=oW (w:=w) hikt hka hk hp l1 r1 hf;dsimp only at hfk;refine⟨_,by simp only[Instr.mapUpdate,Sem.run_bind,run_underlying hu,Result.andThen_ok,ka hh,hchk,hfind,hfk];exact nV hh _,fin _ _ (fun _ _ _=>by simp) ?_⟩
   have get:∀(i:Nat) (e:MapEntry),(es.push { key:=ku,val:=vu,born:=c })[i]?=some e->(es[i]?=some e)∨(i=es.size∧e={ key:=ku,val:=vu,born:=c }):=fun i e he=>by
    rw[Array.getElem?_push]at he;split at he
    ·cases he;exact .inr ⟨‹_›,rfl⟩
    ·exact .inl he
   have getl:∀(i:Nat) (e:MapEntry),(ls++[{ key:=ku,val:=vu,born:=c }])[i]?=some e->(ls[i]?=some e)∨(i=ls.length∧e={ key:=ku,val:=vu,born:=c }):=fun i e he=>by
    by_cases hi:i<ls.length
    ·rw[DY hi]at he
     exact .inl he
    ·rw[D9 (by omega)]at he
     have:=(DR.1 he).1
     simp at this;have e0:i-ls.length=0:=by omega
     rw[e0]at he;cases he;exact .inr ⟨by omega,rfl⟩
   refine⟨hB,hSM,_,c+1,ls++[{ key:=ku,val:=vu,born:=c }],World.putObj_heap_same hlt,by simpa using hp.append_right [{ key:=ku,val:=vu,born:=c }],by simpa using l1,by simpa using l2,fun i e x he hx=>?_,fun i e x he hx=>?_,fun i i' e e'' he he' hlt'=>?_,fun i e he=>?_⟩
   ·rcases getl i e he with he|⟨rfl,rfl⟩
    ·rw[DY (by rw[l1];exact(DR.1 he).1)]at hx
     exact r1 i e x he hx
    ·rw[D9 (by omega),l1]at hx
     simp at hx;subst hx;exact hk
   ·rcases getl i e he with he|⟨rfl,rfl⟩
    ·rw[DY (by rw[l2];exact(DR.1 he).1)]at hx
     exact r2 i e x he hx
    ·rw[D9 (by omega),l2]at hx
     simp at hx;subst hx;exact hv
   ·rcases get i e he with he|⟨rfl,rfl⟩ <;> rcases get i' e'' he' with he' |⟨rfl,rfl⟩
    ·exact b1 _ _ _ _ he he' hlt'
    ·exact b2 _ _ he
    ·have:=(ER.1 he').1;omega
    ·omega
   ·rcases get i e he with he|⟨rfl,rfl⟩
    ·have:=b2 _ _ he;omega
    ·exact FG _
end
def TyD.ifc:TyD->Bool
 |.iface=>true
 |_=>false
def og:List PV->Option (List UInt8)
 |[]=>some []
 |.int .u8 n::r=>match og r with
  |some bs=>some (UInt8.ofNat n.toNat::bs)
  |none=>none
 |_::_=>none
def isU8:TyD->Bool
 |.int .u8=>true
 |_=>false
def convC(T:TypeId->TyI)(src dst:TypeId)(x:PV):Option PV :=
 if(T src).d.ok=true then
  match (T dst).d,x with
  |.int k,.int _ n=>some (.int k (k.wrap n))
  |.str,.sl _ es=>match (T src).d with
   |.slice e=>if isU8 (T e).d=true then match og es with
    |some bs=>some (.str bs)
    |none=>none
    else none
   |_=>none
  |_,_=>none
 else none
def tp(T:TypeId->TyI)(t:TypeId)(x:PV):Option PV :=
 if(T t).d.ok=true∧(T t).d.ifc=false then
  match x with
  |.nili=>some (.tuple [(T t).zeroE,.bool false])
  |.iface t' v=>if t'=t then some (.tuple [v,.bool true])else some (.tuple [(T t).zeroE,.bool false])
  |_=>none
 else none
def maxC(mx:Bool)(k:IntKind):Int->List PV->Option PV
 |m,[]=>some (.int k m)
 |m,.int k' n::r=>if k=k' then maxC mx k (if mx then(if n>m then n else m)else(if n<m then n else m)) r else none
 |_,_::_=>none
def wL(sg:List Box)(p:PV):Option (PV×Eff) :=
 match p with
 |.bp id 0=>match sg[id]? with
  |some (.sit s pos) =>
   if pos<s.length then
    let r:=Utf8.decode ⟨s.toArray⟩ pos
    if(Lit.int .i32 r.1).wf=true∧pos<=maxLen then some (.tuple [.bool true,.int .i64 pos,.int .i32 r.1],some (id,.sit s (pos+r.2)))else none
   else some (.tuple [.bool false],none)
  |_=>none
 |_=>none
def se(tm:List (Nat×PV)):Option Operand->Option (Option PV)
 |none=>some none
 |some x=>match evO tm x with
  |some v=>some (some v)
  |none=>none
def evPs(tm:List (Nat×PV)):List (Nat×Operand)->Option (List (Nat×PV))
 |[]=>some []
 |(i,x)::r=>match evO tm x,evPs tm r with
  |some v,some vs=>some ((i,v)::vs)
  |_,_=>none
def x7(v:Option PV):Option (PV×Eff) :=
 match v with
 |some v=>some (v,none)
 |none=>none
def ki(r:Option (Nat×Box)):Option (PV×Eff) :=
 match r with
 |some r=>some (.tuple [],some r)
 |none=>none
def bl:Fn->Bool
 |.yield _=>false
 |_=>true
def nilOk:PV->Bool
 |.bp .. |.ip _|.iface ..=>true
 |.fn (.func _) _ _=>true
 |_=>false
def iz(T:TypeId->TyI)(sg:List Box)(fid:Nat)(b:Builtin)(ts:List TypeId)(vs:List PV):Option (PV×Eff) :=
 match b,ts,vs with
 |.append,[t,t'],[s,x]=>if t=t' then ed T sg fid t s x else none
 |.len,[t],[x]=>x7 (lenC T sg t x)
 |.max,_,.int k n::r=>x7 (maxC true k n r)
 |.min,_,.int k n::r=>x7 (maxC false k n r)
 |_,_,_=>none
def gc(sg:List Box)(x:PV):Option (PV×Eff) :=
 match x with
 |.ms id n=>match sg[id]? with
  |some (.row z e k es frz)=>if es.length=n then some (.sl (if z then .n else .a) es,if frz then none else some (id,.row z e k es true))else none
  |_=>none
 |x=>some (x,none)
def eU(T:TypeId->TyI)(sg:List Box)(t:TypeId)(x:PV):Option (PV×Eff) :=
 match (T t).d with
 |.array n e=>if(T e).d.ok=true∧(T e).size=1∧n<=maxLen then
  match x with
  |.bp id off=>match sg[id]? with
   |some (.var cs frz)=>if off+n<=cs.length then some (.sl .f ((cs.drop off).take n),if frz then none else some (id,.var cs true))else none
   |_=>none
  |.ip cs=>if n<=cs.length then some (.sl .f (cs.take n),none)else none
  |_=>none
  else none
 |_=>none
def opC(T:TypeId->TyI)(tm:List (Nat×PV))(sg:List Box)(fid:Nat):Op->Option (PV×Eff)
 |.move x=>x7 (evO tm x)
 |.assign x=>x7 (evO tm x)
 |.pick c a b=>match evO tm c with
  |some (.bool true)=>x7 (evO tm a)
  |some (.bool false)=>x7 (evO tm b)
  |_=>none
 |.alloc t=>if(T t).d.ok=true then some (.bp fid 0,some (fid,.var (T t).zero false))else none
 |.box _ x=>match evO tm x with
  |some v=>if(v.ag||v.one)=true then some (.bp fid 0,some (fid,.var v.cells false))else none
  |none=>none
 |.build t ps=>match evPs tm ps.toList with
  |some vs=>x7 (Dh T t vs)
  |none=>none
 |.buildSlice t n ps=>match evPs tm ps.toList with
  |some vs=>x7 (cL T t n vs)
  |none=>none
 |.load t a=>if(T t).d.ok=true then match evO tm a with
  |some p=>match ptrC sg p with
   |some cs=>x7 (zj (T t) cs)
   |none=>none
  |none=>none
  else none
 |.store t a x=>match evO tm a,evO tm x with
  |some p,some v=>if(T t).d.ok=true∧(v.ag||v.one)=true∧v.cells.length=(T t).size then ki (m4 sg p v)else none
  |_,_=>none
 |.nilCheck x=>match evO tm x with
  |some v=>if nilOk v=true then some (v,none)else none
  |none=>none
 |.binOp op t x y _=>match evO tm x,evO tm y with
  |some u,some v=>x7 (binC T sg op t (DD y) u v)
  |_,_=>none
 |.unOp op _ x=>match evO tm x with
  |some v=>x7 (unC op v)
  |none=>none
 |.convert s d x=>match evO tm x with
  |some v=>x7 (convC T s d v)
  |none=>none
 |.makeInterface t x=>match evO tm x with
  |some v=>if(T t).d.ok=true∧(T t).d.ifc=false then some (.iface t v,none)else none
  |none=>none
 |.makeFunc f a b=>match Ms tm a.toList,Ms tm b.toList with
  |some u,some v=>if bl f=true then some (.fn f u v,none)else none
  |_,_=>none
 |.makeMap _ none=>lD fid
 |.makeSlice t l c=>match evO tm l,evO tm c with
  |some u,some v=>iI T fid t u v
  |_,_=>none
 |.slice t x lo hi mx=>match evO tm x,se tm lo,se tm hi,se tm mx with
  |some v,some l,some h,some m=>match iW T sg t v l h m with
   |some r=>some (r,none)
   |none=>match gc sg v with
    |some (v',ef)=>match vf T t v' l h m with
     |some r=>some (r,ef)
     |none=>match l,h,m with
      |none,none,none=>eU T sg t v
      |_,_,_=>none
    |none=>none
  |_,_,_,_=>none
 |.fieldAddr t x f=>match evO tm x with
  |some v=>x7 (dK T sg t v f)
  |none=>none
 |.field t x f=>match evO tm x with
  |some v=>x7 (BW T t v f)
  |none=>none
 |.indexAddr t x i=>match evO tm x,evO tm i with
  |some v,some j=>x7 (dP T sg t v j)
  |_,_=>none
 |.index t x i=>match evO tm x,evO tm i with
  |some v,some j=>x7 (vl T t v j)
  |_,_=>none
 |.lookup t m k ok=>match evO tm m,evO tm k with
  |some v,some j=>x7 (eI T sg t v j ok)
  |_,_=>none
 |.mapUpdate t m k x=>match evO tm m,evO tm k,evO tm x with
  |some v,some j,some y=>ki (cN T sg t v j y)
  |_,_,_=>none
 |.insert t m k x=>match evO tm m,evO tm k,evO tm x with
  |some v,some j,some y=>ki (cN T sg t v j y)
  |_,_,_=>none
 |.range t x=>match (T t).d,evO tm x with
  |.str,some (.str s)=>some (.bp fid 0,some (fid,.sit s 0))
  |_,_=>none
 |.next x true=>match evO tm x with
  |some p=>wL sg p
  |none=>none
 |.typeAssert x _ t true=>match evO tm x with
  |some v=>x7 (tp T t v)
  |none=>none
 |.extract x i=>match evO tm x with
  |some (.tuple vs)=>x7 vs[i]?
  |_=>none
 |.call c=>match c.callee with
  |.builtin b=>match Ms tm c.args.toList with
   |some vs=>iz T sg fid b c.argTypes.toList vs
   |none=>none
  |_=>none
 |_=>none
def rk:Op->Bool
 |.alloc _|.box .. |.makeMap .. |.makeSlice .. |.range ..=>true
 |.call c=>match c.callee with
  |.builtin .append=>true
  |_=>false
 |_=>false
section
variable {P:Program} {T:TypeId->TyI} {G:Gh} {sg:List Box} {w:World}
def OkN(P:Program)(G:Gh)(sg':List Box)(w:World)(v:PV)(s:Sem Next):Prop :=
 ∃u w' G',(s.run P w=.ok (.value u) w'∨(s.run P w=.ok .skip w'∧u=Go.undef))∧Rel G' sg' w'∧G.le G'∧G'.dfr=G.dfr∧Rep G' v u
theorem cw{sg':List Box}{v:PV}{s:Sem Value}(h:∃u w' G',s.run P w=.ok u w'∧Rel G' sg' w'∧G.le G'∧G'.dfr=G.dfr∧Rep G' v u):OkN P G sg' w v (do pure (.value (←s))):=by
 obtain⟨u,w',G',h1,h2,h3,h4,h5⟩:=h;exact⟨u,w',G',.inl (by simp[h1]),h2,h3,h4,h5⟩
theorem bZ{v:PV}{s:Sem Value}(hR:Rel G sg w)(h:∃u,s.run P w=.ok u w∧Rep G v u):OkN P G sg w v (do pure (.value (←s))) :=
 cw (let ⟨u,a,b⟩:=h;⟨u,w,G,a,hR,G.le_refl,rfl,b⟩)
theorem pP{sg':List Box}{s:Sem Unit}(h:∃w',s.run P w=.ok () w'∧Rel G sg' w'):OkN P G sg' w (.tuple []) (do s;pure .skip):=by
 obtain⟨w',h1,h2⟩:=h;exact⟨Go.undef,w',G,.inr ⟨by simp[h1],rfl⟩,h2,G.le_refl,rfl,.tuple rfl fun j c u h=>by simp at h⟩
theorem tz{v:PV}{u:Value}(hR:Rel G sg w)(h:Rep G v u):OkN P G sg w v (pure (.value u)):=⟨u,w,G,.inl rfl,hR,G.le_refl,rfl,h⟩
theorem aU{v:Option PV}{r:PV}{ef:Eff}(h:x7 v=some (r,ef)):v=some r∧ef=none:=by
 cases v <;> simp[x7]at h
 obtain⟨rfl,rfl⟩:=h;exact⟨rfl,rfl⟩
theorem io{v:Option (Nat×Box)}{r:PV}{ef:Eff}(h:ki v=some (r,ef)):∃q,v=some q∧ef=some q∧r=.tuple []:=by
 cases v <;> simp[ki]at h
 obtain⟨rfl,rfl⟩:=h;exact⟨_,rfl,rfl,rfl⟩
theorem jJ{tm:List (Nat×PV)}{a:Act}(hT:RepT G tm a.tmps){x:Option Operand}{v:Option PV}(h:se tm x=some v):
 (∀y,v=some y->∃u,x.map a.eval=some u∧Rep G y u)∧(v=none->x.map a.eval=none):=by
 cases x with
 |none=>cases h;exact⟨fun y h=>(by cases h),fun _=>rfl⟩
 |some x =>
  simp only[se]at h;split at h <;> cases h
  exact⟨fun y hy=>by cases hy;exact⟨_,rfl,aH hT ‹_›⟩,fun h=>by cases h⟩
theorem lG{tm:List (Nat×PV)}{a:Act}(hT:RepT G tm a.tmps):∀{ps:List (Nat×Operand)} {vs:List (Nat×PV)},evPs tm ps=some vs ->
 (ps.map fun (p:Nat×Operand)=>(p.1,a.eval p.2)).length=vs.length∧∀(j:Nat) (p:Nat×PV) (q:Nat×Value),vs[j]?=some p->(ps.map fun (p:Nat×Operand)=>(p.1,a.eval p.2))[j]?=some q->p.1=q.1∧Rep G p.2 q.2
 |[],vs,h=>by cases h;exact⟨rfl,fun j p q h=>by simp at h⟩
 |(i,x)::r,vs,h=>by
  unfold evPs at h;split at h <;> cases h
  rename_i h1 h2;obtain⟨a1,a2⟩:=lG hT h2;refine⟨by simpa using a1,fun j p q hp hq=>?_⟩
  cases j with
  |zero=>simp at hp hq;subst hp;subst hq;exact⟨rfl,aH hT h1⟩
  |succ j=>simp only[EE,FB]at hp hq;exact a2 j p q hp hq
theorem xO{b:Bool}{k:IntKind}:∀{vs:List PV} {us:List Value} {m:Int} {v:PV},maxC b k m vs=some v->(Lit.int k m).wf=true->us.length=vs.length->(∀(j:Nat) (c:PV) (u:Value),vs[j]?=some c->us[j]?=some u->Rep G c u) ->
 ∃u,(us.foldlM (if b then Builtin.max2 else Builtin.min2) (.int k m):Sem Value).run P w=.ok u w∧Rep G v u
 |[],[],m,v,h,hw,_,_=>by cases h;exact⟨_,rfl,.int hw⟩
 |[],_::_,m,v,h,hw,hl,_=>by simp at hl
 |_::_,[],m,v,h,hw,hl,_=>by simp at hl
 |x::vs,u::us,m,v,h,hw,hl,hr=>by
  have hx:=hr 0 x u rfl rfl;cases x <;> simp only[maxC]at h <;> try (cases h;done)
  split at h <;> try (cases h;done)
  rename_i k' n hk;subst hk;cases hx with
  |int hn =>
  obtain⟨u',h1,h2⟩:=xO (us:=us) h (by split <;> split <;> assumption) (by simpa using hl) (fun j c u h1 h2=>hr (j+1) c u (by simpa using h1) (by simpa using h2))
  refine⟨u',?_,h2⟩;rw[List.foldlM_cons,Sem.run_bind];cases b
  ·simpa[Builtin.min2]using h1
  ·simpa[Builtin.max2]using h1
theorem undI{t:TypeId}{i:TyI}(hi:TyOk P t i)(h:i.d.ifc=false):∃u,P.underlying t=some u∧∀ms,u≠.interface ms:=by
 obtain⟨u,h1,h2⟩:=und hi;refine⟨u,h1,fun ms e=>?_⟩
 subst e;rw[←h2]at h;cases h
theorem zV(hT:TyT P T){t xt:TypeId}{x v:PV}{u:Value}(hx:Rep G x u)(h:tp T t x=some v):∃u',(Instr.typeAssert u xt t true).run P w=.ok u' w∧Rep G v u':=by
 unfold tp at h;split at h <;> try (cases h;done)
 rename_i hc;have hi:=hT t hc.1;obtain⟨ud,hu,hni⟩:=undI hi hc.2;obtain⟨z,hz,hzr⟩:=qi (G:=G) (w:=w) hi;split at h <;> try (cases h;done)
 ·cases h
  cases hx;refine⟨.tuple #[z,.bool false],?_,rx hzr .bool⟩;simp only[Instr.typeAssert,Sem.run_bind,run_underlying hu,Result.andThen_ok];cases ud <;> first|(exact absurd rfl (hni _))|simp[hz]
 ·rename_i t' v'
  cases hx with
  |iface hv =>
  split at h <;> cases h
  ·subst_vars
   refine⟨.tuple #[_,.bool true],?_,rx hv .bool⟩;simp only[Instr.typeAssert,Sem.run_bind,run_underlying hu,Result.andThen_ok];cases ud <;> first|(exact absurd rfl (hni _))|simp
  ·rename_i hne
   refine⟨.tuple #[z,.bool false],?_,rx hzr .bool⟩;simp only[Instr.typeAssert,Sem.run_bind,run_underlying hu,Result.andThen_ok];cases ud <;> first|(exact absurd rfl (hni _))|simp[hz,hne]
theorem nW:∀(bs:List UInt8) (acc:List UInt8),(bs.map fun b=>(b.toNat:Int)).foldl (fun r n=>r.push (UInt8.ofNat n.toNat)) (⟨acc.toArray⟩:ByteArray)=⟨(acc++bs).toArray⟩
 |[],acc=>by simp
 |b::bs,acc=>by
  have e:(⟨acc.toArray⟩:ByteArray).push (UInt8.ofNat (b.toNat:Int).toNat)=⟨(acc++[b]).toArray⟩:=by
   apply ByteArray.ext;simp[ByteArray.push]
  rw[EE,EI,e,nW bs (acc++[b])];simp
theorem nE:∀{es:List PV} {bs:List UInt8} {us:List Value},og es=some bs->us.length=es.length->(∀(j:Nat) (c:PV) (u:Value),es[j]?=some c->us[j]?=some u->Rep G c u) ->
 us=(bs.map fun b=>(b.toNat:Int)).map (Value.int .u8)∧bs.length=es.length∧flat es=es∧∀e∈es,e.cells.length=1
 |[],bs,us,h,hl,_=>by
  cases h;exact⟨EB hl,rfl,rfl,fun e h=>by cases h⟩
 |e::es,bs,[],h,hl,_=>by simp at hl
 |e::es,bs,u::us,h,hl,hr=>by
  unfold og at h;split at h <;> try (cases h;done)
  ·rename_i h0;cases h0
  ·rename_i n r h0
   cases h0;split at h <;> cases h
   rename_i bs' hbs;obtain⟨a,b,c,d⟩:=nE hbs (by simpa using hl) (fun j c u h1 h2=>hr (j+1) c u (by simpa using h1) (by simpa using h2))
   have h1:=hr 0 _ u rfl rfl;cases h1 with
   |int hw =>
    refine⟨?_,by simp[b],by rw[bg,c];rfl,fun e he=>?_⟩
    ·rw[a]
     simp only[Lit.wf,IntKind.min,IntKind.max,IntKind.signed,IntKind.bits,D3,Eo]at hw;have hn:((UInt8.ofNat n.toNat).toNat:Int)=n:=by
      have h0:(0:Int)<=n:=by simpa using hw.1
      have h2:n<=255:=by simpa using hw.2
      rw[UInt8.toNat_ofNat'];omega
     simp only[EE,hn]
    ·rcases D6.1 he with rfl|he
     ·rfl
     ·exact d e he
theorem conv_ok(hT:TyT P T)(hR:Rel G sg w){s d:TypeId}{x v:PV}{u:Value}(hx:Rep G x u)(h:convC T s d x=some v):∃u',(convert s d u).run P w=.ok u' w∧Rep G v u':=by
 unfold convC at h;split at h <;> try (cases h;done)
 rename_i hs;obtain⟨us,hus,_⟩:=und (hT s hs);split at h <;> try (cases h;done)
 ·cases h
  rename_i k k' n hd;have hd':=o8 (hT d (by rw[hd];rfl)) hd
  cases hx;refine⟨.int k (k.wrap n),?_,.int (wfw _ _)⟩;simp only[convert,Sem.run_bind,run_underlying hus,run_underlying hd',Result.andThen_ok];cases us <;> simp[Conv.intToInt]
 ·rename_i z es hd
  split at h <;> try (cases h;done)
  rename_i e hse;split at h <;> try (cases h;done)
  rename_i hu8;split at h <;> cases h
  rename_i bs hbs;have hd':=mf (hT d (by rw[hd];rfl)) hd
  have hs':=bB (hT s hs) hse;have he:(T e).d=.int .u8:=by
   cases hte:(T e).d <;> rw[hte]at hu8 <;> simp[isU8]at hu8
   rename_i k;cases k <;> simp at hu8 ⊢
  have he':=o8 (hT e (by rw[he];rfl)) he
  rcases mi hR hx with ⟨_,rfl,rfl⟩|⟨g,off,cap,k,sp,cs,_,hsp,rfl,hc,hm,_,hk,h1,hL,hcell,hl⟩
  ·cases hbs
   refine⟨.string .empty,?_,.str (by simp)⟩
   simp[convert,run_underlying hs',run_underlying hd',run_underlying he',Conv.bytesToString]
  ·have hfl:flat es=es∧∀y∈es,y.cells.length=1:=by
    have:∀{es:List PV} {bs:List UInt8},og es=some bs->flat es=es∧∀y∈es,y.cells.length=1:=by
     intro es;induction es with
     |nil=>intro bs _;exact⟨rfl,fun y h=>by cases h⟩
     |cons y es ih =>
      intro bs h;unfold og at h;split at h <;> try (cases h;done)
      ·rename_i h0;cases h0
      ·rename_i n r h0
       cases h0;split at h <;> cases h
       obtain⟨a,b⟩:=ih ‹_›;exact⟨by rw[bg,a];rfl,fun y hy=>by
        rcases D6.1 hy with rfl|hy
        ·rfl
        ·exact b y hy⟩
    exact this hbs
   have hcl:cs.length=es.length:=by
    have:=hL.1
    rw[hfl.1]at this;simpa using this
   obtain⟨e1,e2,_⟩:=nE (G:=G) (us:=cs) hbs hcl (fun j c u h1 h2=>hL.2 j c u (by rw[hfl.1];exact h1) (by simpa using h2))
   have hcell':∀j u,cs[j]?=some u->w.cell? ((⟨g,off,sp⟩:Addr).add j)=some u:=by
    rcases FH cap with h0|h0
    ·obtain rfl:cs=[]:=EB (by omega)
     intro j u h;simp at h
    ·obtain rfl:=hsp h0
     exact hcell
   have hld:=run_loadCells_list (P:=P) w ⟨g,off,sp⟩ cs hcell';rw[hcl,e1]at hld;have hb:=run_bytesToString (P:=P) w ⟨g,off,sp⟩ es.length cap (bs.map fun b=>(b.toNat:Int)) hld
   refine⟨.string ⟨bs.toArray⟩,?_,.str (by omega)⟩
   have hemp:(ByteArray.empty)=(⟨([]:List UInt8).toArray⟩:ByteArray):=rfl;rw[hemp,nW bs []]at hb;simp only[convert,Sem.run_bind,run_underlying hs',run_underlying hd',run_underlying he',Result.andThen_ok];simpa using hb
theorem oy{g pos:Nat}{s:ByteArray}(h:w.heap[g]?=some (.stringIter s pos)):(getObj g).run P w=.ok (.stringIter s pos) w:=by
 simp[getObj,Sem.run,h]
theorem wg{g pos:Nat}{s:ByteArray}(h:w.heap[g]?=some (.stringIter s pos))(o':Obj):(setObj g o').run P w=.ok () (w.putObj g o'):=by
 simp[setObj,Sem.run,h,World.putObj]
theorem tuple3{a b c:PV}{u v x:Value}(ha:Rep G a u)(hb:Rep G b v)(hc:Rep G c x):Rep G (.tuple [a,b,c]) (.tuple #[u,v,x]):=by
 refine .tuple rfl fun j d y hd hy=>?_
 match j,hd,hy with
 |0,hd,hy=>simp at hd hy;subst hd;subst hy;exact ha
 |1,hd,hy=>simp at hd hy;subst hd;subst hy;exact hb
 |2,hd,hy=>simp at hd hy;subst hd;subst hy;exact hc
 |j+3,hd,_=>simp at hd
theorem next_ok(hR:Rel G sg w){p v:PV}{u:Value}{ef:Eff}{ty:TypeId}(hp:Rep G p u)(h:wL sg p=some (v,ef)):
 ∃u' w' G',(Instr.next u true ty).run P w=.ok u' w'∧Rel G' (Lm sg ef) w'∧G.le G'∧G'.dfr=G.dfr∧Rep G' v u':=by
 unfold wL at h;split at h <;> try (cases h;done)
 rename_i id;split at h <;> try (cases h;done)
 rename_i s pos hb;cases hp with
 |bp hs =>
  rename_i g;obtain⟨hB,hh⟩:=hR.box id _ _ hs hb;have hsz:(⟨s.toArray⟩:ByteArray).size=s.length:=rfl;split at h
  ·rename_i hlt
   dsimp only at h;split at h <;> cases h
   rename_i hc;have hset:=cn hs;refine⟨_,w.putObj g (.stringIter ⟨s.toArray⟩ (pos+(Utf8.decode ⟨s.toArray⟩ pos).2)),G,?_,?_,G.le_refl,rfl,tuple3 .bool (.int (kU hc.2)) (.int hc.1)⟩
   ·simp only[Instr.next,Sem.run_bind,oy hh,Result.andThen_ok,hsz,DZ hlt,wg hh]
    simp[goInt]
   ·have key:Rel (G.setSlot id (.blk g)) (sg.set id (.sit s (pos+(Utf8.decode ⟨s.toArray⟩ pos).2))) (w.putObj g (.stringIter ⟨s.toArray⟩ (pos+(Utf8.decode ⟨s.toArray⟩ pos).2))):=by
     refine hR.change hs (Slot.le_refl _) (grownBy_putObj' w g _) (fun g' e=>.inl e) (fun g' e=>by cases e;exact hB) (fun g' e o v hS=>?_) (fun g' e es' c' hM=>?_) (fun g' e=>kH hR hs hb e) ⟨hB,World.putObj_heap_same (ba hh)⟩
     ·cases e
      have:=hR.st _ _ _ hS
      simp[World.cell?,hh]at this
     ·cases e
      have:=hR.stM _ _ _ hM
      rw[hh]at this;cases this
    rw[hset]at key;exact key
  ·rename_i hlt
   cases h;refine⟨_,w,G,?_,hR,G.le_refl,rfl,.tuple (us:=#[.bool false]) rfl fun j c u hc hu=>?_⟩
   ·simp only[Instr.next,Sem.run_bind,oy hh,Result.andThen_ok,hsz,D5 hlt]
    rfl
   ·cases j with
    |zero=>simp at hc hu;subst hc;subst hu;exact .bool
    |succ j=>simp at hc
theorem vi(hT:TyT P T){t e:TypeId}{n:Nat}{cs:List PV}{u:Value}(hd:(T t).d=.array n e)(he:(T e).d.ok=true)(h1:(T e).size=1)(hn:n<=maxLen)(hx:Rep G (.ip cs) u)(hl:n<=cs.length):
 ∃u',(Instr.sliceAt t u none none none).run P w=.ok u' w∧Rep G (.sl .f (cs.take n)) u':=by
 have hu:=iq (hT t (by rw[hd];rfl)) hd
 cases hx with
 |ip us ho hS hr =>
  rename_i g off;have hone:∀c∈cs,c.cells=[c]:=fun c hc=>by
   have:=ho c hc
   cases c <;> first|rfl|(simp[PV.one]at this)
  have hfl:∀l:List PV,(∀c∈l,c.cells=[c])->flat l=l:=by
   intro l;induction l with
   |nil=>intro _;rfl
   |cons c l ih=>intro h;rw[bg,h c (DV ..),ih fun x hx=>h x (DW _ hx)];rfl
  have hft:flat (cs.take n)=cs.take n:=hfl _ fun c hc=>hone c (Ey hc)
  have hlen:(cs.take n).length=n:=by simp;omega
  refine⟨.slice (some ⟨g,off,none⟩) n n,?_,?_⟩
  ·by_cases h0:n=0
   ·subst h0
    simp[Instr.sliceAt,run_underlying hu,Instr.sureAddr,Instr.sliceBounds,g6 (hT e he)]
   ·simp[Instr.sliceAt,run_underlying hu,Instr.sureAddr,Instr.sliceBounds,g6 (hT e he),h0,gy]
  ·have key:Rep G (.sl .f (cs.take n)) (.slice (some ⟨g,off,none⟩) (cs.take n).length n):=by
    refine .sl (by simp) (fun _=>by rw[hlen]) 1 us (fun c hc=>by rw[hone c (Ey hc)];rfl) (fun c hc=>?_) (by rw[hlen];exact DS _) hn (fun j c hc=>?_) (fun j c hc=>?_) (fun _=>rfl)
    ·rw[hft]at hc;exact ho c (Ey hc)
    ·rw[hft,El]at hc
     split at hc
     ·exact hS j c hc
     ·cases hc
    ·rw[hft,El]at hc
     split at hc
     ·exact hr j c hc
     ·cases hc
   rw[hlen]at key;exact key
theorem sX(hT:TyT P T)(hR:Rel G sg w){t:TypeId}{x v:PV}{u:Value}{ef:Eff}(hx:Rep G x u)(h:eU T sg t x=some (v,ef)):
 ∃u' w' G',(Instr.sliceAt t u none none none).run P w=.ok u' w'∧Rel G' (Lm sg ef) w'∧G.le G'∧G'.dfr=G.dfr∧Rep G' v u':=by
 unfold eU at h;split at h <;> try (cases h;done)
 rename_i n e hd;split at h <;> try (cases h;done)
 rename_i hc;split at h <;> try (cases h;done)
 ·rename_i id off
  split at h <;> try (cases h;done)
  rename_i cs frz hb;split at h <;> cases h
  rename_i hl;obtain⟨G',a,b,c,d,_⟩:=gp hR (some 0) hx;simp only[fC,hb,Ee,Fy]at a d;obtain⟨u',h1,h2⟩:=vi (P:=P) (w:=w) hT hd hc.1 hc.2.1 hc.2.2 d (by simp;omega)
  refine⟨u',w,G',h1,?_,b,c,h2⟩;cases frz
  ·exact a
  ·have:sg.set id (.var cs true)=sg:=by
    apply E6;intro j;by_cases hj:id=j
    ·subst hj
     rw[D4 (DR.1 hb).1,hb]
    ·rw[D8 hj]
   rw[this]at a;exact a
 ·rename_i cs
  split at h <;> cases h
  rename_i hl;obtain⟨u',h1,h2⟩:=vi (P:=P) (w:=w) hT hd hc.1 hc.2.1 hc.2.2 hx hl;exact⟨u',w,G,h1,hR,G.le_refl,rfl,h2⟩
theorem tE(hR:Rel G sg w){x v:PV}{u:Value}{ef:Eff}(hx:Rep G x u)(h:gc sg x=some (v,ef)):∃G',Rel G' (Lm sg ef) w∧G.le G'∧G'.dfr=G.dfr∧Rep G' v u:=by
 unfold gc at h;split at h
 ·rename_i id n
  split at h <;> try (cases h;done)
  rename_i z e k es frz hb;split at h <;> cases h
  rename_i hn;obtain⟨G',a,b,c,d,_⟩:=gp hR none hx;simp only[fC,hb,hn,DZ]at a d;refine⟨G',?_,b,c,d⟩;cases frz
  ·exact a
  ·have:sg.set id (.row z e k es true)=sg:=by
    apply E6;intro j;by_cases hj:id=j
    ·subst hj
     rw[D4 (DR.1 hb).1,hb]
    ·rw[D8 hj]
   rw[this]at a;exact a
 ·cases h
  exact⟨G,hR,G.le_refl,rfl,hx⟩
end
section
variable {P:Program} {T:TypeId->TyI} {G:Gh} {sg:List Box} {w:World} {tm:List (Nat×PV)} {a:Act} {fid:Nat}
theorem ag_or{v:PV}(h:(v.ag||v.one)=true):v.ag=true∨v.one=true:=by simpa using h
theorem two{α:Type}{l:Array α}{x y:α}(h:l.toList=[x,y]):l=#[x,y]:=by
 apply Array.ext';simpa using h
theorem one'{α:Type}{l:Array α}{x:α}(h:l.toList=[x]):l=#[x]:=by
 apply Array.ext';simpa using h
theorem evOs2{us:Array Value}{x y:PV}(h:RepL G [x,y] us):∃u v,us=#[u,v]∧Rep G x u∧Rep G y v:=by
 obtain⟨hl,hr⟩:=h;have hl':us.size=2:=hl;refine⟨us[0],us[1],?_,hr 0 x _ rfl (ED (by omega)),hr 1 y _ rfl (ED (by omega))⟩
 apply Array.ext
 ·simp[hl']
 ·intro i h1 h2
  match i,h2 with
  |0,_=>rfl
  |1,_=>rfl
  |n+2,h2=>simp at h2;omega
theorem evOs1{us:Array Value}{x:PV}(h:RepL G [x] us):∃u,us=#[u]∧Rep G x u:=by
 obtain⟨hl,hr⟩:=h;have hl':us.size=1:=hl;refine⟨us[0],?_,hr 0 x _ rfl (ED (by omega))⟩
 apply Array.ext
 ·simp[hl']
 ·intro i h1 h2
  match i,h2 with
  |0,_=>rfl
  |n+1,h2=>simp at h2
theorem Lv{b:Bool}{u:Value}(h:Rep G (.bool b) u):u=.bool b:=by cases h;rfl
theorem wY(hT:TyT P T)(hR:Rel G sg w){b:Builtin}(hf:b=.append->jT sg fid){ts:Array TypeId}{vs:List PV}{us:Array Value}{v:PV}{ef:Eff}{ty:TypeId}{cs:Array Bool}(hL:RepL G vs us)
 (h:iz T sg fid b ts.toList vs=some (v,ef)):OkN P G (Lm sg ef) w v (builtin b ts ty cs us):=by
 unfold iz at h;split at h <;> try (cases h;done)
 ·rename_i t t' s x hts
  split at h <;> try (cases h;done)
  rename_i htt;subst htt;obtain rfl:=two hts;obtain⟨u,v',rfl,h1,h2⟩:=evOs2 hL;exact cw (xC hT hR (hf rfl) h1 h2 h)
 ·rename_i t x hts
  obtain⟨hh,rfl⟩:=aU h;obtain rfl:=one' hts;obtain⟨u,rfl,h1⟩:=evOs1 hL;exact bZ hR (len_ok hT hR h1 hh)
 ·rename_i k n r
  obtain⟨hh,rfl⟩:=aU h;obtain⟨hl,hr⟩:=hL;obtain⟨l⟩:=us;cases l with
  |nil=>simp at hl
  |cons u us =>
   have h0:=hr 0 _ u rfl (by simp)
   cases h0 with
   |int hw =>
    obtain⟨u',h1,h2⟩:=xO (P:=P) (w:=w) (us:=us) hh hw (by simpa using hl) (fun j c u h1 h2=>hr (j+1) c u (by simpa using h1) (by simpa using h2))
    exact bZ hR ⟨u',by simpa[Builtin.max_]using h1,h2⟩
 ·rename_i k n r
  obtain⟨hh,rfl⟩:=aU h;obtain⟨hl,hr⟩:=hL;obtain⟨l⟩:=us;cases l with
  |nil=>simp at hl
  |cons u us =>
   have h0:=hr 0 _ u rfl (by simp)
   cases h0 with
   |int hw =>
    obtain⟨u',h1,h2⟩:=xO (P:=P) (w:=w) (us:=us) hh hw (by simpa using hl) (fun j c u h1 h2=>hr (j+1) c u (by simpa using h1) (by simpa using h2))
    exact bZ hR ⟨u',by simpa[Builtin.min_]using h1,h2⟩
theorem op_ok(hT:TyT P T)(hR:Rel G sg w)(hTm:RepT G tm a.tmps){o:Oper}(hf:rk o.op=true->jT sg fid){v:PV}{ef:Eff}(h:opC T tm sg fid o.op=some (v,ef)):
 OkN P G (Lm sg ef) w v (execOp a.eval o):=by
 unfold execOp;generalize ho:o.op=op at *;unfold opC at h;split at h
 case h_1 x =>
  obtain⟨hh,rfl⟩:=aU h;exact tz hR (aH hTm hh)
 case h_2 x =>
  obtain⟨hh,rfl⟩:=aU h;exact tz hR (aH hTm hh)
 case h_3 c x y =>
  split at h <;> try (cases h;done)
  ·rename_i hc
   obtain⟨hh,rfl⟩:=aU h;have:=aH hTm hc
   have e:a.eval c=.bool true:=Lv this;have h2:=aH hTm hh;exact⟨a.eval x,w,G,.inl (by simp[e,asBool]),hR,G.le_refl,rfl,h2⟩
  ·rename_i hc
   obtain⟨hh,rfl⟩:=aU h;have:=aH hTm hc
   have e:a.eval c=.bool false:=Lv this;have h2:=aH hTm hh;exact⟨a.eval y,w,G,.inl (by simp[e,asBool]),hR,G.le_refl,rfl,h2⟩
 case h_4 t =>
  split at h <;> cases h
  rename_i hok;obtain⟨w',G',h1,h2,h3,h4,h5⟩:=alloc_ok hR (hf rfl) (hT t hok);exact cw ⟨_,w',G',h1,h2,h3,h4,h5⟩
 case h_5 t x =>
  split at h <;> try (cases h;done)
  rename_i v' hv;split at h <;> cases h
  rename_i hone;obtain⟨w',G',h1,h2,h3,h4,h5⟩:=box_ok hR (hf rfl) t (aH hTm hv) (ag_or hone);exact cw ⟨_,w',G',h1,h2,h3,h4,h5⟩
 case h_6 t ps =>
  split at h <;> try (cases h;done)
  rename_i vs hv;obtain⟨hh,rfl⟩:=aU h;obtain⟨p1,p2⟩:=lG hTm hv;exact bZ hR (build_ok hT (by simpa using p1) (fun j p q h1 h2=>p2 j p q h1 (by simpa using h2)) hh)
 case h_7 t n ps =>
  split at h <;> try (cases h;done)
  rename_i vs hv;obtain⟨hh,rfl⟩:=aU h;obtain⟨p1,p2⟩:=lG hTm hv;exact cw (MA hT hR (by simpa using p1) (fun j p q h1 h2=>p2 j p q h1 (by simpa using h2)) hh)
 case h_8 t x =>
  split at h <;> try (cases h;done)
  rename_i hok;split at h <;> try (cases h;done)
  rename_i p hp;split at h <;> try (cases h;done)
  rename_i cs hcs;obtain⟨hh,rfl⟩:=aU h;obtain⟨g,off,e,h1,h2⟩:=nT hR (aH hTm hp) hcs;have:=z8 (hT t hok) h1 h2 hh
  rw[←e]at this;exact bZ hR this
 case h_9 t x y =>
  split at h <;> try (cases h;done)
  rename_i p v' hp hv;split at h <;> try (cases h;done)
  rename_i hc;obtain⟨q,hq,rfl,rfl⟩:=io h;exact pP (store_ok hR (hT t hc.1) (aH hTm hp) (aH hTm hv) (ag_or hc.2.1) hc.2.2 hq)
 case h_10 x =>
  split at h <;> try (cases h;done)
  rename_i v' hv;split at h <;> cases h
  rename_i hn;have hr:=aH hTm hv;dsimp only;generalize a.eval x=u at hr ⊢;have key:∀s:Sem Next,s=pure (.value u)->OkN P G (Lm sg none) w v s:=fun s e=>by rw[e];exact tz hR hr
  cases v <;> simp[nilOk]at hn
  case bp=>cases hr;exact key _ rfl
  case ip cs=>cases hr;exact key _ rfl
  case iface t v=>cases hr;exact key _ rfl
  case fn f a b =>
   cases f <;> simp at hn
   cases hr;exact key _ rfl
 case h_11 op t x y yt =>
  split at h <;> try (cases h;done)
  rename_i u v' hu hv;obtain⟨hh,rfl⟩:=aU h;exact bZ hR (bin_ok hT hR (aH hTm hu) (aH hTm hv) hh)
 case h_12 op t x =>
  split at h <;> try (cases h;done)
  obtain⟨hh,rfl⟩:=aU h;exact bZ hR (un_ok (aH hTm ‹_›) hh)
 case h_13 s d x =>
  split at h <;> try (cases h;done)
  obtain⟨hh,rfl⟩:=aU h;exact bZ hR (conv_ok hT hR (aH hTm ‹_›) hh)
 case h_14 t x =>
  split at h <;> try (cases h;done)
  split at h <;> cases h
  rename_i hc;obtain⟨ud,hu,hni⟩:=undI (hT t hc.1) hc.2;refine bZ hR ⟨.iface t (a.eval x),?_,.iface (aH hTm ‹_›)⟩;simp only[Instr.makeInterface,Sem.run_bind,run_underlying hu,Result.andThen_ok];cases ud <;> first|(exact absurd rfl (hni _))|rfl
 case h_15 f x y =>
  split at h <;> try (cases h;done)
  rename_i u v' hu hv;split at h <;> cases h
  rename_i hf';have e1:=eO hTm hu;have e2:=eO hTm hv;exact bZ hR ⟨_,rfl,.fn (fun l e=>by subst e;cases hf') e1.1 e2.1 e1.2 e2.2⟩
 case h_16 t=>exact cw (wn hR (hf rfl) h)
 case h_17 t l c =>
  split at h <;> try (cases h;done)
  rename_i u v' hu hv;exact cw (rD hT hR (hf rfl) (aH hTm hu) (aH hTm hv) h)
 case h_18 t x lo hi mx =>
  split at h <;> try (cases h;done)
  rename_i v' l' h' m' e1 e2 e3 e4;have nn0:∀{y:Option Operand},se tm y=some none->y.map a.eval=none:=fun {y} hy=>by
   cases y with
   |none=>rfl
   |some y=>simp only[se]at hy;split at hy <;> cases hy
  split at h
  ·rename_i r hp
   cases h;obtain⟨u',h1,h2⟩:=wm (lou:=lo.map a.eval) (hiu:=hi.map a.eval) (mxu:=mx.map a.eval) hT hR (aH hTm e1) (fun e=>nn0 (e▸e2)) (jJ hTm e3).1 (jJ hTm e4).1 (fun e=>nn0 (e▸e4)) hp
   exact cw ⟨u',w,G,h1,hR,G.le_refl,rfl,h2⟩
  split at h <;> try (cases h;done)
  rename_i v2 ef2 hs;split at h
  rotate_left
  ·split at h <;> try (cases h;done)
   have nn:∀{y:Option Operand},se tm y=some none->y.map a.eval=none:=fun {y} hy=>by
    cases y with
    |none=>rfl
    |some y=>simp only[se]at hy;split at hy <;> cases hy
   dsimp only;rw[nn e2,nn e3,nn e4];exact cw (sX hT hR (aH hTm e1) h)
  rename_i r hr;cases h;obtain⟨G',a1,a2,a3,a4⟩:=tE hR (aH hTm e1) hs;have hTm':=hTm.mono a2;obtain⟨b1,b2⟩:=jJ hTm' e2;obtain⟨c1,c2⟩:=jJ hTm' e3;obtain⟨d1,d2⟩:=jJ hTm' e4;obtain⟨u',h1,h2⟩:=slice_ok (w:=w) hT a4 b1 b2 c1 c2 d1 d2 hr;exact cw ⟨u',w,G',h1,a1,a2,a3,h2⟩
 case h_19 t x f =>
  split at h <;> try (cases h;done)
  obtain⟨hh,rfl⟩:=aU h;exact bZ hR (rF hT hR (aH hTm ‹_›) hh)
 case h_20 t x f =>
  split at h <;> try (cases h;done)
  obtain⟨hh,rfl⟩:=aU h;exact bZ hR (field_ok hT (aH hTm ‹_›) hh)
 case h_21 t x i =>
  split at h <;> try (cases h;done)
  rename_i u v' hu hv;obtain⟨hh,rfl⟩:=aU h;exact bZ hR (qA hT hR (aH hTm hu) (aH hTm hv) hh)
 case h_22 t x i =>
  split at h <;> try (cases h;done)
  rename_i u v' hu hv;obtain⟨hh,rfl⟩:=aU h;exact bZ hR (index_ok hT (aH hTm hu) (aH hTm hv) hh)
 case h_23 t m k ok =>
  split at h <;> try (cases h;done)
  rename_i u v' hu hv;obtain⟨hh,rfl⟩:=aU h;exact bZ hR (yR hT hR (aH hTm hu) (aH hTm hv) hh)
 case h_24 t m k x =>
  split at h <;> try (cases h;done)
  rename_i u v' y hu hv hy;obtain⟨q,hq,rfl,rfl⟩:=io h;exact pP (kW hT hR (aH hTm hu) (aH hTm hv) (aH hTm hy) hq)
 case h_25 t m k x =>
  split at h <;> try (cases h;done)
  rename_i u v' y hu hv hy;obtain⟨q,hq,rfl,rfl⟩:=io h;exact pP (kW hT hR (aH hTm hu) (aH hTm hv) (aH hTm hy) hq)
 case h_26 t x =>
  split at h <;> cases h
  rename_i s hd hs;have hr:=aH hTm hs;have hu:=mf (hT t (by rw[hd];rfl)) hd
  dsimp only;generalize a.eval x=u at hr ⊢;cases hr;obtain⟨G',b1,b2,b3,b4⟩:=hR.fill (b:=.sit s 0) (c8 w (.stringIter ⟨s.toArray⟩ 0)) (hf rfl) (s:=.blk w.heap.size) (fun g hg=>by cases hg;exact DS _) (fun G' hle hw hS hM hdf=>⟨hw▸hR.base_le,heap_alloc_new w _⟩)
  refine cw ⟨.pointer (some ⟨w.heap.size,0,none⟩),w.alloc (.stringIter ⟨s.toArray⟩ 0),G',?_,b1,b2,b3,.bp b4⟩;simp[Instr.range,run_underlying hu]
 case h_27 x =>
  split at h <;> try (cases h;done)
  exact cw (next_ok hR (aH hTm ‹_›) h)
 case h_28 x xt t =>
  split at h <;> try (cases h;done)
  obtain⟨hh,rfl⟩:=aU h;exact bZ hR (zV hT (aH hTm ‹_›) hh)
 case h_29 x i =>
  split at h <;> try (cases h;done)
  rename_i vs hx;obtain⟨hh,rfl⟩:=aU h;have hr:=aH hTm hx;dsimp only;generalize a.eval x=u at hr ⊢;cases hr with
  |tuple hl hr =>
   rename_i us;have hlt:i<us.size:=by rw[hl];exact(DR.1 hh).1
   exact bZ hR ⟨us[i],by simp[Instr.extract,hlt],hr i v _ hh (ED hlt)⟩
 case h_30 c =>
  split at h <;> try (cases h;done)
  rename_i b hb;split at h <;> try (cases h;done)
  rename_i vs hvs;have hL:=eO hTm hvs;have:=wY (P:=P) (ty:=o.type) (cs:=c.args.map fun|.const _=>true|_=>false) hT hR (fun e=>hf (by subst e;simp[rk,hb])) hL h
  obtain⟨u,w',G',h1,h2⟩:=this;refine⟨u,w',G',?_,h2⟩;simp only[resolve,hb,Sem.run_bind,Sem.run_pure,Result.andThen_ok,invoke];exact h1
 case h_31=>cases h
end
structure Gh.leM(m:Nat)(G G':Gh):Prop where
 w0:G'.w0=G.w0
 S:∀g o v,G.S g o=some v->G'.S g o=some v
 SM:∀g v,G.SM g=some v->G'.SM g=some v
 old:∀g o,g<G.w0.heap.size->G'.S g o=G.S g o
 oldM:∀g,g<G.w0.heap.size->G'.SM g=G.SM g
 rho:∀(id:Nat) (s:Slot),id<m->G.rho[id]?=some s->∃s',G'.rho[id]?=some s'∧s.le s'
theorem Gh.le.leM{G G':Gh}(h:G.le G')(m:Nat):Gh.leM m G G':=⟨h.w0,h.S,h.SM,h.old,h.oldM,fun id s _ e=>h.rho id s e⟩
theorem Gh.leM.trans{m m':Nat}{A B C:Gh}(h:Gh.leM m A B)(k:Gh.leM m' B C)(hm:m<=m'):Gh.leM m A C where
 w0:=k.w0.trans h.w0
 S g o v e:=k.S _ _ _ (h.S _ _ _ e)
 SM g v e:=k.SM _ _ (h.SM _ _ e)
 old g o hg:=(k.old g o (h.w0▸hg)).trans (h.old g o hg)
 oldM g hg:=(k.oldM g (h.w0▸hg)).trans (h.oldM g hg)
 rho id s hid e:=by
  obtain⟨s',e',l⟩:=h.rho id s hid e;obtain⟨s'',e'',l'⟩:=k.rho id s' (by omega) e'
  exact⟨s'',e'',Slot.le_trans l l'⟩
theorem Gh.leM.less{m m':Nat}{A B:Gh}(h:Gh.leM m A B)(hm:m'<=m):Gh.leM m' A B :=
 ⟨h.w0,h.S,h.SM,h.old,h.oldM,fun id s hid e=>h.rho id s (by omega) e⟩
theorem Rep.monoM{m:Nat}{G G':Gh}(hl:Gh.leM m G G'){v:PV}{u:Value}(h:Rep G v u):Lt m v->Rep G' v u:=by
 induction h with
 |bool=>exact fun _=>.bool
 |int h=>exact fun _=>.int h
 |str h=>exact fun _=>.str h
 |nilp=>exact fun _=>.nilp
 |nilm=>exact fun _=>.nilm
 |nilf=>exact fun _=>.nilf
 |nili=>exact fun _=>.nili
 |nils=>exact fun _=>.nils
 |sl hz hf k us hk h1 hc hm hS hr hsp ih =>
  intro hlt;refine .sl hz hf k us hk h1 hc hm (fun j c h=>hl.S _ _ _ (hS j c h)) (fun j c h=>ih j c h ?_) hsp
  cases hlt with
  |sl hlt =>
   obtain⟨e,he,hce⟩:=dq.1 (DU h);exact hlt e he c hce
 |ms hs hn ho hu =>
  intro hlt;obtain⟨s',e,l⟩:=hl.rho _ _ ((lt_ms _ _ _).1 hlt) hs;cases s' with
  |row v' n' k' =>
   obtain⟨rfl,l⟩:=l;refine .ms e ?_ ho ?_
   ·rcases l with l|⟨rfl,_⟩ <;> omega
   ·intro he
    rcases l with l|⟨rfl,rfl⟩
    ·omega
    ·exact hu he
  |_=>exact l.elim
 |rp hs hn ho hu =>
  intro hlt;obtain⟨s',e,l⟩:=hl.rho _ _ ((lt_rp _ _ _ _ _).1 hlt) hs;cases s' with
  |row v' n' k' =>
   obtain⟨rfl,l⟩:=l;refine .rp e ?_ ho ?_
   ·rcases l with l|⟨rfl,_⟩ <;> omega
   ·intro he
    rcases l with l|⟨rfl,rfl⟩
    ·omega
    ·exact hu he
  |_=>exact l.elim
 |pf hs hn ho hu =>
  intro hlt;obtain⟨s',e,l⟩:=hl.rho _ _ ((lt_pf _ _ _ _).1 hlt) hs;cases s' with
  |row v' n' k' =>
   obtain⟨rfl,l⟩:=l;refine .pf e ?_ ho ?_
   ·rcases l with l|⟨rfl,_⟩ <;> omega
   ·intro he
    rcases l with l|⟨rfl,rfl⟩
    ·omega
    ·exact hu he
  |_=>exact l.elim
 |mp hs =>
  intro hlt;obtain⟨s',e,l⟩:=hl.rho _ _ ((lt_mp _ _).1 hlt) hs;cases s' with
  |blk g'=>cases l;exact .mp e
  |_=>exact l.elim
 |im hs hp hk hv hrk hrv ihk ihv =>
  intro hlt;have:=(lt_im _ _ _).1 hlt
  exact .im (hl.SM _ _ hs) hp hk hv (fun j e k h1 h2=>ihk j e k h1 h2 (this.1 k (DU h2))) (fun j e k h1 h2=>ihv j e k h1 h2 (this.2 k (DU h2)))
 |fn hf h1 h2 _ _ ih1 ih2 =>
  intro hlt;have:=(lt_fn _ _ _ _).1 hlt
  exact .fn hf h1 h2 (fun j c u hc hu=>ih1 j c u hc hu (this.1 c (DU hc))) (fun j c u hc hu=>ih2 j c u hc hu (this.2 c (DU hc)))
 |iface _ ih=>exact fun hlt=>.iface (ih ((uE _ _ _).1 hlt))
 |agg hl' h1 _ ih=>exact fun hlt=>.agg hl' h1 (fun j c u hc hu=>ih j c u hc hu ((lt_agg _ _).1 hlt c (DU hc)))
 |tuple hl' _ ih=>exact fun hlt=>.tuple hl' (fun j c u hc hu=>ih j c u hc hu ((uC _ _).1 hlt c (DU hc)))
 |bp hs =>
  intro hlt;obtain⟨s',e,l⟩:=hl.rho _ _ ((lt_bp _ _ _).1 hlt) hs;cases s' with
  |blk g'=>cases l;exact .bp e
  |_=>exact l.elim
 |ip us h1 hS _ ih=>exact fun hlt=>.ip us h1 (fun j c h=>hl.S _ _ _ (hS j c h)) (fun j c h=>ih j c h ((lt_ip _ _).1 hlt c (DU h)))
 |yl hs =>
  intro hlt;obtain⟨s',e,l⟩:=hl.rho _ _ ((lt_yl _ _).1 hlt) hs;cases s' with
  |lp g' d'=>obtain⟨rfl,rfl⟩:=l;exact .yl e
  |_=>exact l.elim
theorem getA{α:Type}{us:Array α}{j n:Nat}(h:us.size=n)(hj:j<n):∃u,us[j]?=some u:=⟨us[j],ED (by omega)⟩
theorem Rep.lt{G:Gh}{v:PV}{u:Value}(h:Rep G v u):Lt G.rho.length v:=by
 have idx:∀{id:Nat} {s:Slot},G.rho[id]?=some s->id<G.rho.length:=fun h=>(DR.1 h).1
 induction h with
 |bool=>exact .bool
 |int=>exact .int
 |str=>exact .str
 |nilp=>exact .nilp
 |nilm=>exact .nilm
 |nilf=>exact .nilf
 |nili=>exact .nili
 |nils=>exact .sl fun e h=>by cases h
 |sl hz hf k us hk h1 hc hm hS hr hsp ih =>
  refine .sl fun e he c hc=>?_
  obtain⟨j,hj,e'⟩:=EX (dq.2 ⟨e,he,hc⟩);exact ih j c (by rw[DT hj,e'])
 |ms hs=>exact .ms (idx hs)
 |rp hs=>exact .rp (idx hs)
 |pf hs=>exact .pf (idx hs)
 |mp hs=>exact .mp (idx hs)
 |im hs hp hk hv _ _ ihk ihv =>
  refine .im (fun c hc=>?_) (fun c hc=>?_)
  ·obtain⟨j,hj,rfl⟩:=EX hc
   obtain⟨e,he⟩:∃e,_[j]?=some e:=⟨_,DT (by rw[←hk];exact hj)⟩
   exact ihk j e _ he (DT hj)
  ·obtain⟨j,hj,rfl⟩:=EX hc
   obtain⟨e,he⟩:∃e,_[j]?=some e:=⟨_,DT (by rw[←hv];exact hj)⟩
   exact ihv j e _ he (DT hj)
 |fn hf h1 h2 _ _ ih1 ih2 =>
  refine .fn (fun c hc=>?_) (fun c hc=>?_)
  ·obtain⟨j,hj,rfl⟩:=EX hc
   obtain⟨e,he⟩:=getA h1 hj;exact ih1 j _ e (DT hj) he
  ·obtain⟨j,hj,rfl⟩:=EX hc
   obtain⟨e,he⟩:=getA h2 hj;exact ih2 j _ e (DT hj) he
 |iface _ ih=>exact .iface ih
 |agg hl _ _ ih =>
  refine .agg fun c hc=>?_
  obtain⟨j,hj,rfl⟩:=EX hc;obtain⟨e,he⟩:=getA hl hj;exact ih j _ e (DT hj) he
 |tuple hl _ ih =>
  refine .tuple fun c hc=>?_
  obtain⟨j,hj,rfl⟩:=EX hc;obtain⟨e,he⟩:=getA hl hj;exact ih j _ e (DT hj) he
 |bp hs=>exact .bp (idx hs)
 |ip us _ _ _ ih =>
  refine .ip fun c hc=>?_
  obtain⟨j,hj,rfl⟩:=EX hc;exact ih j _ (DT hj)
 |yl hs=>exact .yl (idx hs)
structure St where
 tm:List (Nat×PV)
 n:Nat
 sg:List Box
 deriving Inhabited
inductive Out where
 |normal
 |exit (id:Nat)
 |goto (l:Nat)
 |ret
 |panic (v:PV)
 deriving Inhabited
def markD(D:Nat):Deferred:={ target:=.collected D,args:=#[] }
def FW(r:Option Nat):Fence:={ Fence.wide with round:=r }
abbrev DB:=List Nat×List Deferred
structure RelS(G:Gh)(st:St)(a:Act)(w:World)(r:Option Nat)(db:DB):Prop where
 rel:Rel G st.sg w
 tm:RepT G st.tm a.tmps
 n:a.tmps.size=st.n
 dfr:∃own:List Nat,a.defers=own.map markD++db.2∧G.dfr=own++db.1∧own.Nodup∧(∀D∈own,D∉db.1)∧(r≠none->own=[])
 rd:∀l,r=some l->∃(id d:Nat) (lr:LoopR),G.rho[id]?=some (.lp l d)∧st.sg[id]?=some (.loop lr)
def oi(G:Gh):Out->Exit->Prop
 |.normal,.normal=>True
 |.exit i,.exit j=>i=j
 |.goto i,.goto j=>i=j
 |.ret,.ret=>True
 |.panic v,.panic ch=>∃u,ch=[{ v:=u,recovered:=false }]∧Rep G v u
 |_,_=>False
def Run(P:Program)(c:Code)(st:St)(out:Out)(st':St):Prop :=
 st.sg.length<=st'.sg.length∧∀(r:Option Nat) (n:Nat) (G:Gh) (a:Act) (w:World) (db:DB) (Q:Exit->Act->World->Prop),RelS G st a w r db ->
  (∀e a' w' G',oi G' out e->RelS G' st' a' w' r db->Gh.leM st.sg.length G G'->Q e a' w')->c.wpIn (FW r) n P Q a w
def bQ(P:Program)(ops:Array Oper)(l:List Nat)(st:St)(out:Out)(st':St):Prop :=
 st.sg.length<=st'.sg.length∧∀(r:Option Nat) (n:Nat) (G:Gh) (a:Act) (w:World) (db:DB) (Q:Exit->Act->World->Prop),RelS G st a w r db ->
  (∀e a' w' G',oi G' out e->RelS G' st' a' w' r db->Gh.leM st.sg.length G G'->Q e a' w')->wpOpsIn (FW r) n P ops Q l a w
def dE(P:Program)(o:Oper)(st:St)(out:Out)(st':St):Prop :=
 st.sg.length<=st'.sg.length∧∀(r:Option Nat) (n:Nat) (G:Gh) (a:Act) (w:World) (db:DB) (next:Act->World->Prop) (Q:Exit->Act->World->Prop),RelS G st a w r db ->
  (∀e a' w' G',oi G' out e->RelS G' st' a' w' r db->Gh.leM st.sg.length G G'->(e=.normal∧next a' w')∨(e≠.normal∧Q e a' w'))->o.wpIn (FW r) n P a w next Q
inductive PRes where
 |ret (v:PV)
 |pan (v:PV)
def ab(P:Program)(f:FuncId)(args:List PV)(sg:List Box)(r:PRes)(sg':List Box):Prop :=
 sg.length<=sg'.length∧∀(n:Nat) (G:Gh) (w:World) (us:Array Value),Rel G sg w->RepL G args us ->
  CallsIn Fence.wide n P f us w fun e w'=>∃G',Rel G' sg' w'∧Gh.leM sg.length G G'∧G'.dfr=G.dfr∧match r,e with
   |.ret v,.returned u=>Rep G' v u
   |.pan v,.panicked ch=>∃u,ch=[{ v:=u,recovered:=false }]∧Rep G' v u
   |_,_=>False
theorem cv{n:Nat}{P:Program}{f:FuncId}{us:Array Value}{w:World}{R:Ending->World->Prop}(r:Option Nat)(h:CallsIn Fence.wide n P f us w R):CallsIn (FW r) n P f us w R:=h
section
variable {P:Program} {T:TypeId->TyI} {st st' st1 st2:St} {out:Out}
theorem bK(m:Nat)(G:Gh):Gh.leM m G G:=G.le_refl.leM m
theorem oi.normal'{G:Gh}{e:Exit}(h:oi G .normal e):e=.normal:=by cases e <;> first|rfl|exact h.elim
theorem Run.skip(st:St):Run P .skip st .normal st:=⟨DS _,fun r n G a w db Q h k=>wpIn_skip (k _ _ _ G trivial h (bK _ _))⟩
theorem Run.label(l:Nat)(st:St):Run P (.label l) st .normal st:=⟨DS _,fun r n G a w db Q h k=>wpIn_label (k _ _ _ G trivial h (bK _ _))⟩
theorem Run.ret(st:St):Run P .ret st .ret st:=⟨DS _,fun r n G a w db Q h k=>wpIn_ret (k _ _ _ G trivial h (bK _ _))⟩
theorem Run.exit(id:Nat)(st:St):Run P (.exit id) st (.exit id) st:=⟨DS _,fun r n G a w db Q h k=>wpIn_exit (k _ _ _ G rfl h (bK _ _))⟩
theorem Run.seq{x y:Code}(h1:Run P x st .normal st1)(h2:Run P y st1 out st2):Run P (.seq x y) st out st2 :=
 ⟨Em h1.1 h2.1,fun r n G a w db Q h k=>wpIn_seq (h1.2 r n G a w db _ h fun e a' w' G' he hs hl=>by
  obtain rfl:=he.normal';exact h2.2 r n G' a' w' db Q hs fun e a'' w'' G'' he' hs' hl'=>k _ _ _ G'' he' hs' (hl.trans hl' h1.1))⟩
theorem Run.seqX{x y:Code}(h1:Run P x st out st1)(hn:out≠.normal):Run P (.seq x y) st out st1 :=
 ⟨h1.1,fun r n G a w db Q h k=>wpIn_seq (h1.2 r n G a w db _ h fun e a' w' G' he hs hl=>by
  have:=k e a' w' G' he hs hl
  cases e <;> first|exact this|(cases out <;> first|exact absurd rfl hn|exact he.elim))⟩
theorem Run.cond{c:Operand}{b:Bool}{x y:Code}(hc:evO st.tm c=some (.bool b))(h1:Run P (if b then x else y) st out st1):Run P (.cond c x y) st out st1 :=
 ⟨h1.1,fun r n G a w db Q h k=>wpIn_cond (Lv (aH h.tm hc)) (h1.2 r n G a w db Q h k)⟩
theorem Run.condT{c:Operand}{x y:Code}(hc:evO st.tm c=some (.bool true))(h1:Run P x st out st1):Run P (.cond c x y) st out st1:=Run.cond hc h1
theorem Run.condF{c:Operand}{x y:Code}(hc:evO st.tm c=some (.bool false))(h1:Run P y st out st1):Run P (.cond c x y) st out st1:=Run.cond hc h1
def Out.inBlock(id:Nat):Out->Out
 |.exit j=>if j=id then .normal else .exit j
 |o=>o
theorem Run.block{id:Nat}{c:Code}(h1:Run P c st out st1):Run P (.block id c) st (out.inBlock id) st1 :=
 ⟨h1.1,fun r n G a w db Q h k=>wpIn_block (h1.2 r n G a w db _ h fun e a' w' G' he hs hl=>by
  cases out <;> cases e <;> try exact he.elim
  ·exact k _ _ _ G' trivial hs hl
  ·cases he
   simp only[Exit.inBlock,Out.inBlock]at k ⊢;split
   ·rename_i hid
    rw[DZ hid]at k;exact k _ _ _ G' trivial hs hl
   ·rename_i hid
    rw[D5 hid]at k;exact k _ _ _ G' rfl hs hl
  ·exact k _ _ _ G' he hs hl
  ·exact k _ _ _ G' trivial hs hl
  ·exact k _ _ _ G' he hs hl)⟩
def aL(st st':St):Prop :=
 st.sg.length<=st'.sg.length∧∀(r:Option Nat) (G:Gh) (a:Act) (w:World) (db:DB),RelS G st a w r db->∃G',RelS G' st' a w r db∧Gh.leM st.sg.length G G'
theorem Run.pre{c:Code}(h:aL st st1)(h1:Run P c st1 out st2):Run P c st out st2 :=
 ⟨Em h.1 h1.1,fun r n G a w db Q hs k=>let ⟨G1,hs1,hl⟩:=h.2 r G a w db hs;h1.2 r n G1 a w db Q hs1 fun e a' w' G' he hs' hl'=>k _ _ _ G' he hs' (hl.trans hl' h.1)⟩
theorem aL.tm{tm':List (Nat×PV)}(h:∀t v,b9 tm' t=some v->b9 st.tm t=some v):aL st { st with tm:=tm' } :=
 ⟨DS _,fun r G a w db hs=>⟨G,⟨hs.rel,fun t v e=>hs.tm t v (h t v e),hs.n,hs.dfr,hs.rd⟩,bK _ _⟩⟩
theorem least_ex{p:Nat->Prop}:∀k,p k->∃m,p m∧∀j,j<m->¬p j:=by
 intro k;induction k using Nat.strongRecOn with
 |_ k ih =>
  intro hk;by_cases h:∃j,j<k∧p j
  ·obtain⟨j,hj,hp⟩:=h
   exact ih j hj hp
  ·exact⟨k,hk,fun j hj hp=>h ⟨j,hj,hp⟩⟩
open Classical in
noncomputable def o7(p:Nat->Prop):Nat:=if h:∃m,p m∧∀j,j<m->¬p j then Classical.choose h else 0
theorem nG{p:Nat->Prop}{k:Nat}(h:p k):p (o7 p)∧o7 p<=k:=by
 have he:=least_ex k h;unfold o7;rw[dif_pos he];have:=Classical.choose_spec he
 exact⟨this.1,Nat.le_of_not_lt fun hlt=>this.2 k hlt h⟩
theorem px{F:Fence}{n:Nat}{c:Code}{Q:Exit->Act->World->Prop}{a:Act}{w:World}(I:Nat->Act->World->Prop){k0:Nat}(h0:I k0 a w)
 (round:∀k a w,I k a w->c.wpIn F n P (Exit.then (fun a' w'=>∃k',k'<k∧I k' a' w') Q) a w):(Code.loop c).wpIn F n P Q a w :=
 wpIn_loop (fun a w=>∃k,I k a w) (fun a w=>o7 fun k=>I k a w) ⟨k0,h0⟩ fun a w ⟨k,hk⟩=>by
  have hm:=(nG (p:=fun k=>I k a w) hk).1
  refine wpIn_mono (round _ a w hm) fun e a' w' h=>?_
  cases e <;> first|exact h|skip
  obtain⟨k',hlt,hk'⟩:=h;exact⟨⟨k',hk'⟩,Nat.lt_of_le_of_lt (nG (p:=fun k=>I k a' w') hk').2 hlt⟩
theorem Run.loop{c:Code}(m:Nat)(S:Nat->St)(hr:∀i,i<m->Run P c (S i) .normal (S (i+1)))(hx:Run P c (S m) out st')(hn:out≠.normal):Run P (.loop c) (S 0) out st':=by
 have hlen:∀i,i<=m->(S 0).sg.length<=(S i).sg.length:=by
  intro i;induction i with
  |zero=>exact fun _=>DS _
  |succ i ih=>exact fun h=>Em (ih (by omega)) (hr i (by omega)).1
 refine⟨Em (hlen m (DS _)) hx.1,fun r n G a w db Q h k=>?_⟩
 refine px (fun j a' w'=>j<=m∧∃G',RelS G' (S (m-j)) a' w' r db∧Gh.leM (S 0).sg.length G G') (k0:=m) ⟨DS _,G,by simpa using h,bK _ _⟩ ?_
 rintro j a' w' ⟨hj,G',hs,hl⟩;cases j with
 |zero =>
  exact hx.2 r n G' a' w' db _ (by simpa using hs) fun e a'' w'' G'' he hs' hl'=>by
   have:=k e a'' w'' G'' he hs' (hl.trans hl' (hlen m (DS _)))
   cases e <;> first|exact this|(cases out <;> first|exact absurd rfl hn|exact he.elim)
 |succ j =>
  exact(hr (m-(j+1)) (by omega)).2 r n G' a' w' db _ hs fun e a'' w'' G'' he hs' hl'=>by
   obtain rfl:=he.normal';refine⟨j,FG _,by omega,G'',?_,hl.trans hl' (hlen _ (by omega))⟩
   have e1:m-(j+1)+1=m-j:=by omega
   rw[e1]at hs';exact hs'
theorem Run.post{c:Code}(h1:Run P c st out st1)(h:aL st1 st2):Run P c st out st2 :=
 ⟨Em h1.1 h.1,fun r n G a w db Q hs k=>h1.2 r n G a w db Q hs fun e a' w' G' he hs' hl'=>by
  obtain⟨G1,hs1,hl1⟩:=h.2 r G' a' w' db hs';refine k _ _ _ G1 ?_ hs1 (hl'.trans hl1 h1.1);cases out <;> cases e <;> first|exact he|skip
  obtain⟨u,hu,hr⟩:=he;exact⟨u,hu,hr.monoM hl1 (hs'.rel.len▸hr.lt)⟩⟩
def Box.Lt(m:Nat):Box->Prop
 |.var cs _=>∀c∈cs,Pv.Lt m c
 |.row _ _ _ es _=>∀c∈flat es,Pv.Lt m c
 |.map ks vs _=>(∀c∈ks,Pv.Lt m c)∧∀c∈vs,Pv.Lt m c
 |.loop r=>∀t v,b9 r.tm t=some v->Pv.Lt m v
 |_=>True
theorem BoxOk.cut{G G':Gh}{w:World}{s:Slot}{b:Box}{m:Nat}(h:BoxOk G w s b)(hb:b.Lt m)(hr:∀v u,Pv.Lt m v->Rep G v u->Rep G' v u)(h0:G'.w0=G.w0)(hS:G'.S=G.S)(hM:G'.SM=G.SM)(hd:G'.dfr=G.dfr):BoxOk G' w s b:=by
 have hL:∀cs us,(∀c∈cs,Pv.Lt m c)->RepL G cs us->RepL G' cs us:=fun cs us hc h=>⟨h.1,fun j c u a b=>hr _ _ (hc c (DU a)) (h.2 j c u a b)⟩
 cases b
 case gone=>cases s <;> simp only[BoxOk]at h ⊢ <;> rw[h0] <;> exact h
 case dead=>cases s <;> simp only[BoxOk]at h ⊢
 case var cs frz =>
  cases s <;> simp only[BoxOk]at h ⊢
  obtain⟨h1,⟨us,T,h2,h3⟩,h4,h5⟩:=h;exact⟨h0▸h1,⟨us,T,h2,hL _ _ hb h3⟩,h4,fun o ho=>by rw[hS];exact h5 o ho⟩
 case row z e k es frz =>
  cases s <;> simp only[BoxOk]at h ⊢
  obtain⟨h1,h2,h3,h4,h5,⟨us,h6,h7⟩,h8⟩:=h;exact⟨h1,h2,h3,h4,h5,⟨us,h0▸h6,hL _ _ hb h7⟩,fun g hg o ho=>by rw[hS];exact h8 g hg o ho⟩
 case map ks vs frz =>
  cases s <;> simp only[BoxOk]at h ⊢
  obtain⟨h1,h2,es,c,ls,h4,hp,h5,h6,h7,h8,h9⟩:=h;exact⟨h0▸h1,fun e=>by rw[hM];exact h2 e,es,c,ls,h4,hp,h5,h6,fun j e k a b=>hr _ _ (hb.1 _ (DU b)) (h7 j e k a b),fun j e k a b=>hr _ _ (hb.2 _ (DU b)) (h8 j e k a b),h9⟩
 case sit s' pos =>
  cases s <;> simp only[BoxOk]at h ⊢
  exact⟨h0▸h.1,h.2⟩
 case ext p =>
  cases s <;> simp only[BoxOk]at h ⊢
  obtain⟨h1,h2,h3,h4⟩:=h;exact⟨h0▸h1,h2,fun o=>by rw[hS];exact h3 o,by rw[hM];exact h4⟩
 case loop r =>
  cases s <;> simp only[BoxOk]at h ⊢
  obtain⟨h1,tm,h2,h3,h4,h5⟩:=h;exact⟨h0▸h1,tm,h2,h3,fun t v e=>let ⟨u,hu,r⟩:=h4 t v e;⟨u,hu,hr _ _ (hb t v e) r⟩,hd▸h5⟩
theorem mD{G:Gh}{sg:List Box}{w:World}(hR:Rel G sg w)(m:Nat)(hlt:∀b∈sg.take m,b.Lt m):Rel { G with rho:=G.rho.take m } (sg.take m) w∧Gh.leM m G { G with rho:=G.rho.take m }:=by
 have hr:∀v u,Pv.Lt m v->Rep G v u->Rep { G with rho:=G.rho.take m } v u:=fun v u hl h=>Rep.lower (G:=G) (G':={ G with rho:=G.rho.take m }) (m:=m) (fun _ _ _ e=>e) (fun _ _ e=>e) (fun id hid=>by show(G.rho.take m)[id]?=_;rw[El,DZ hid]) h hl
 refine⟨⟨hR.below,by simp[hR.len],fun id s b hs hb=>?_,fun i j s s' g hij hs hs'=>?_,hR.st,hR.stM,hR.dfr,hR.tab⟩,⟨rfl,fun _ _ _ e=>e,fun _ _ e=>e,fun _ _ _=>rfl,fun _ _=>rfl,fun id s hid hs=>⟨s,by rw[El,DZ hid];exact hs,s.le_refl⟩⟩⟩
 ·rw[El]at hs
  have hb':=hb;rw[El]at hb;split at hs
  ·rename_i hid
   rw[DZ hid]at hb;exact(hR.box id s b hs hb).cut (hlt b (DU hb')) hr rfl rfl rfl rfl
  ·cases hs
 ·rw[El]at hs hs'
  split at hs <;> try (cases hs;done)
  split at hs' <;> try (cases hs';done)
  exact hR.inj i j s s' g hij hs hs'
theorem jk{tm:List (Nat×PV)}{t:Nat}{v:PV}(h:b9 tm t=some v):∃p∈tm,p.2=v:=by
 induction tm with
 |nil=>cases h
 |cons p tm ih =>
  obtain⟨s,x⟩:=p;unfold b9 at h;split at h
  ·cases h;exact⟨_,DV ..,rfl⟩
  ·obtain⟨q,hq,e⟩:=ih h;exact⟨q,DW _ hq,e⟩
theorem Run.cut{c:Code}(h1:Run P c st out st1)(m:Nat)(hm:st.sg.length<=m)(hm':m<=st1.sg.length)(hsg:∀b∈st1.sg.take m,b.Lt m)(htm:∀p∈st1.tm,Pv.Lt m p.2)(ho:∀v,out=.panic v->Pv.Lt m v)
 (hlp:∀id r,m<=id->st1.sg[id]?≠some (.loop r)):Run P c st out { st1 with sg:=st1.sg.take m } :=
 ⟨by simp;omega,fun r n G a w db Q hs k=>h1.2 r n G a w db Q hs fun e a' w' G' he hs' hl'=>by
  obtain⟨hR,hl⟩:=mD hs'.rel m hsg;refine k _ _ _ _ ?_ ⟨hR,fun t v e=>?_,hs'.n,hs'.dfr,fun l hl0=>?_⟩ (hl'.trans hl hm)
  ·cases out <;> cases e <;> first|exact he|skip
   obtain⟨u,hu,hr⟩:=he;exact⟨u,hu,hr.monoM hl (ho _ rfl)⟩
  ·obtain⟨u,hu,hr⟩:=hs'.tm t v e
   obtain⟨p,hp,rfl⟩:=jk e;exact⟨u,hu,hr.monoM hl (htm p hp)⟩
  ·obtain⟨id,d,lr,h1,h2⟩:=hs'.rd l hl0
   have hid:id<m:=Nat.lt_of_not_le fun h=>hlp id lr h h2
   exact⟨id,d,lr,by rw[El,DZ hid];exact h1,by rw[El,DZ hid];exact h2⟩⟩
def hasT:List (Nat×PV)->Nat->Bool
 |[],_=>false
 |(s,_)::r,t=>if s=t then true else hasT r t
def setT:List (Nat×PV)->Nat->PV->List (Nat×PV)
 |[],_,_=>[]
 |(s,x)::r,t,v=>if s=t then(s,v)::r else(s,x)::setT r t v
def jW(tm:List (Nat×PV))(t:Nat)(v:PV):List (Nat×PV):=if hasT tm t then setT tm t v else(t,v)::tm
def putD(tm:List (Nat×PV)):Option Nat->PV->List (Nat×PV)
 |some t,v=>jW tm t v
 |none,_=>tm
theorem qW:∀(tm:List (Nat×PV)) (t:Nat) (v:PV) (s:Nat),hasT tm t=true->b9 (setT tm t v) s=if t=s then some v else b9 tm s
 |[],t,v,s,h=>by cases h
 |(q,x)::r,t,v,s,h=>by
  unfold setT;by_cases hq:q=t
  ·subst hq
   simp only[Fy,b9];split <;> rfl
  ·rw[D5 hq]
   simp only[hasT,D5 hq]at h;simp only[b9,qW r t v s h];by_cases h1:q=s
   ·subst h1
    rw[DZ rfl,D5 (fun e=>hq e.symm),DZ rfl]
   ·rw[D5 h1,D5 h1]
theorem eR(tm:List (Nat×PV))(t:Nat)(v:PV)(s:Nat):b9 (jW tm t v) s=if t=s then some v else b9 tm s:=by
 unfold jW;split
 ·exact qW tm t v s ‹_›
 ·rfl
theorem RepT.putD{G:Gh}{tm:List (Nat×PV)}{a:Act}(h:RepT G tm a.tmps){dst:Option Nat}(hd:∀d,dst=some d->d<a.tmps.size){v:PV}{u:Value}(hv:Rep G v u):RepT G (Pv.putD tm dst v) (a.put dst u).tmps:=by
 cases dst with
 |none=>exact h
 |some d =>
  intro t x e;simp only[Pv.putD,eR]at e;simp only[Act.put];split at e
  ·rename_i hdt
   subst hdt;cases e;exact⟨u,by simp[hd d rfl],hv⟩
  ·rename_i hdt
   obtain⟨y,hy,hr⟩:=h t x e;exact⟨y,by rw[Gb hdt];exact hy,hr⟩
theorem cD(a:Act)(dst:Option Nat)(u:Value):(a.put dst u).tmps.size=a.tmps.size:=by cases dst <;> simp[Act.put]
theorem bO(a:Act)(dst:Option Nat)(u:Value):(a.put dst u).defers=a.defers:=by cases dst <;> rfl
theorem RelS.put{G:Gh}{a:Act}{w:World}{r:Option Nat}{db:DB}(h:RelS G st a w r db){dst:Option Nat}(hd:∀d,dst=some d->d<st.n){v:PV}{u:Value}(hv:Rep G v u):
 RelS G { st with tm:=Pv.putD st.tm dst v } (a.put dst u) w r db :=
 ⟨h.rel,h.tm.putD (fun d e=>h.n▸hd d e) hv,(cD a dst u).trans h.n,by rw[bO];exact h.dfr,h.rd⟩
theorem bQ.nil(ops:Array Oper)(st:St):bQ P ops [] st .normal st:=⟨DS _,fun r n G a w db Q h k=>k _ _ _ G trivial h (bK _ _)⟩
theorem Run.region{id:Nat}{ops:Array Oper}(h:bQ P ops (List.range ops.size) st out st1):Run P (.region id ops false) st out st1 :=
 ⟨h.1,fun r n G a w db Q hs k=>wpIn_region (h.2 r n G a w db Q hs k)⟩
def E1(ops:Array Oper)(tm:List (Nat×PV))(o:Oper):Option Bool :=
 match o.guard with
 |none=>some true
 |some (j,want)=>match ops[j]? with
  |some oj=>match oj.dst with
   |some t=>match b9 tm t with
    |some (.bool b)=>some (b==want)
    |some (.tuple _)=>some false
    |_=>none
   |none=>none
  |none=>none
theorem kn{ops:Array Oper}{G:Gh}{tm:List (Nat×PV)}{a:Act}(hT:RepT G tm a.tmps){o:Oper}{b:Bool}(h:E1 ops tm o=some b):Region.wanted o (yielded ops a.tmps)=b:=by
 unfold E1 at h;unfold Region.wanted;split at h
 ·rename_i hg
  cases h;simp[hg]
 ·rename_i j want hg
  split at h <;> try (cases h;done)
  rename_i oj hoj;split at h <;> try (cases h;done)
  rename_i t ht;split at h <;> try (cases h;done)
  ·rename_i b' hb
   cases h;obtain⟨u,hu,hr⟩:=hT t _ hb;obtain rfl:=Lv hr;simp[hg,yielded,hoj,ht,hu]
  ·rename_i vs hb
   cases h;obtain⟨u,hu,hr⟩:=hT t _ hb;cases hr;simp[hg,yielded,hoj,ht,hu]
theorem bQ.cons{ops:Array Oper}{i:Nat}{rest:List Nat}{o:Oper}(hi:ops[i]?=some o)(hw:E1 ops st.tm o=some true)(h1:dE P o st .normal st1)(h2:bQ P ops rest st1 out st2):bQ P ops (i::rest) st out st2 :=
 ⟨Em h1.1 h2.1,fun r n G a w db Q hs k=>by
  have hwt:=kn hs.tm hw;simp only[wpOpsIn,hi,hwt,Fy];refine h1.2 r n G a w db _ Q hs fun e a' w' G' he hs' hl=>.inl ⟨he.normal',?_⟩
  exact h2.2 r n G' a' w' db Q hs' fun e a'' w'' G'' he' hs'' hl'=>k _ _ _ G'' he' hs'' (hl.trans hl' h1.1)⟩
theorem bQ.stop{ops:Array Oper}{i:Nat}{rest:List Nat}{o:Oper}(hi:ops[i]?=some o)(hw:E1 ops st.tm o=some true)(hn:out≠.normal)(h1:dE P o st out st1):bQ P ops (i::rest) st out st1 :=
 ⟨h1.1,fun r n G a w db Q hs k=>by
  have hwt:=kn hs.tm hw;simp only[wpOpsIn,hi,hwt,Fy];refine h1.2 r n G a w db _ Q hs fun e a' w' G' he hs' hl=>.inr ⟨?_,k _ _ _ G' he hs' hl⟩
  rintro rfl;cases out <;> first|exact hn rfl|exact he⟩
theorem bQ.skip{ops:Array Oper}{i:Nat}{rest:List Nat}{o:Oper}(hi:ops[i]?=some o)(hw:E1 ops st.tm o=some false)(hd:∀d,o.dst=some d->d<st.n)
 (h2:bQ P ops rest { st with tm:=Pv.putD st.tm o.dst (.tuple []) } out st2):bQ P ops (i::rest) st out st2 :=
 ⟨h2.1,fun r n G a w db Q hs k=>by
  have hwt:=kn hs.tm hw;simp only[wpOpsIn,hi,hwt,E8,if_false];refine⟨fun f _=>trivial,?_⟩
  exact h2.2 r n G _ w db Q (hs.put hd (v:=.tuple []) (u:=Go.undef) (.tuple rfl fun j c u h=>by simp at h)) fun e a'' w'' G'' he' hs'' hl'=>k _ _ _ G'' he' hs'' hl'⟩
end
def effB:Eff->Bool
 |some (_,.gone)=>false
 |_=>true
def sgN(o:Op)(sg:List Box):List Box:=if rk o then sg++[.dead]else sg
section
variable {P:Program} {T:TypeId->TyI} {st st' st1 st2:St} {out:Out} {G:Gh} {sg:List Box} {w:World}
theorem g9(hR:Rel G sg w):Rel (G.push .dead) (sg++[.dead]) w :=
 hR.push (Below.refl _ w) (fun g e=>by cases e) trivial
theorem cj{G':Gh}{w':World}{sg':List Box}(hR':Rel G' sg' w'){m:Nat}(hl:Gh.leM m G G'){id d l:Nat}{lr:LoopR}(hid:id<m)(h1:G.rho[id]?=some (.lp l d))(hng:sg'[id]?≠some .gone):
 ∃lr',G'.rho[id]?=some (.lp l d)∧sg'[id]?=some (.loop lr'):=by
 obtain⟨s',e,hle⟩:=hl.rho id _ hid h1;cases s' <;> simp[Slot.le]at hle
 obtain⟨rfl,rfl⟩:=hle;obtain⟨b,hb,hok⟩:=hR'.slotBox e;cases b <;> simp only[BoxOk]at hok
 ·exact⟨_,e,hb⟩
 ·exact absurd hb hng
theorem mR{tm:List (Nat×PV)}{fid:Nat}{o:Op}{r:PV×Eff}(h:opC T tm sg fid o=some r):∀c,o≠.defer c:=by
 rintro c rfl;simp[opC]at h
theorem dE.eval(hT:TyT P T){o:Oper}(hd:∀d,o.dst=some d->d<st.n){v:PV}{ef:Eff}(h:opC T st.tm (sgN o.op st.sg) st.sg.length o.op=some (v,ef))(he:effB ef=true):
 dE P o st .normal { tm:=putD st.tm o.dst v,n:=st.n,sg:=Lm (sgN o.op st.sg) ef }:=by
 have hlen:st.sg.length<=(Lm (sgN o.op st.sg) ef).length:=by
  have:(Lm (sgN o.op st.sg) ef).length=(sgN o.op st.sg).length:=by unfold Lm;cases ef <;> simp
  rw[this];unfold sgN;split <;> simp
 refine⟨hlen,fun r n G a w db next Q hs k=>⟨fun f _=>trivial,?_⟩⟩
 have hG0:∃G0,Rel G0 (sgN o.op st.sg) w∧G.le G0∧G0.dfr=G.dfr:=by
  unfold sgN;split
  ·exact⟨_,g9 hs.rel,G.push_le _,rfl⟩
  ·exact⟨G,hs.rel,G.le_refl,rfl⟩
 obtain⟨G0,hR0,hl0,hdf0⟩:=hG0;have hfree:rk o.op=true->jT (sgN o.op st.sg) st.sg.length:=fun hn=>by unfold sgN jT;rw[DZ hn];simp
 obtain⟨u,w',G',hrun,hR',hl',hdf',hv⟩:=op_ok (P:=P) (o:=o) hT hR0 (hs.tm.mono hl0) hfree h;have hle:=Gh.le_trans hl0 hl';have hlM:=hle.leM st.sg.length;have hS:RelS G' { tm:=putD st.tm o.dst v,n:=st.n,sg:=Lm (sgN o.op st.sg) ef } (a.put o.dst u) w' r db:=by
  refine⟨hR',(hs.tm.mono hle).putD (fun d e=>hs.n▸hd d e) hv,(cD a o.dst u).trans hs.n,?_,fun l hl=>?_⟩
  ·obtain⟨own,h1,h2⟩:=hs.dfr
   exact⟨own,by rw[bO];exact h1,by rw[hdf',hdf0];exact h2.1,h2.2⟩
  ·obtain⟨id,d,lr,h1,h2⟩:=hs.rd l hl
   have hid:=(DR.1 h2).1;have h2':(sgN o.op st.sg)[id]?=some (.loop lr):=by unfold sgN;split;rw[DY hid];exact h2;exact h2
   obtain⟨lr',h3,h4⟩:=cj (lr:=lr) hR' hlM hid h1 (fun hg=>by
    unfold Lm at hg;split at hg
    ·rw[h2']at hg;cases hg
    ·rename_i id' b'
     by_cases hii:id'=id
     ·subst hii
      rw[D4 (DR.1 h2').1]at hg;cases hg;cases he
     ·rw[D8 hii,h2']at hg;cases hg)
   exact⟨id,d,lr',h3,h4⟩
 have hsem:o.semAt (FW r).round a.eval=execOp a.eval o:=Oper.semAt_eq _ _ _ (mR h);rw[hsem];have:=k .normal (a.put o.dst u) w' G' trivial hS hlM
 rcases this with ⟨_,hn⟩|⟨hn,_⟩
 ·rcases hrun with hrun|⟨hrun,rfl⟩
  ·rw[hrun];exact hn
  ·rw[hrun];exact hn
 ·exact absurd rfl hn
def SameLoops(sg sg':List Box):Prop :=
 (∀(id:Nat) (lr:LoopR),sg[id]?=some (.loop lr)->∃lr',sg'[id]?=some (.loop lr'))∧∀(id:Nat) (lr:LoopR),sg'[id]?=some (.loop lr)->∃lr',sg[id]?=some (.loop lr')
theorem SameLoops.refl(sg:List Box):SameLoops sg sg:=⟨fun _ lr h=>⟨lr,h⟩,fun _ lr h=>⟨lr,h⟩⟩
theorem SameLoops.trans{a b c:List Box}(h:SameLoops a b)(k:SameLoops b c):SameLoops a c :=
 ⟨fun id lr e=>let ⟨_,e'⟩:=h.1 id lr e;k.1 id _ e',fun id lr e=>let ⟨_,e'⟩:=k.2 id lr e;h.2 id _ e'⟩
def isLoopB:Box->Bool
 |.loop _=>true
 |_=>false
def aR:List Box->List Box->Bool
 |[],bs=>bs.all fun b=>!isLoopB b
 |a::as0,b::bs=>isLoopB a==isLoopB b&&aR as0 bs
 |a::as0,[]=>!isLoopB a&&aR as0 []
theorem jb{b:Box}:isLoopB b=true↔∃lr,b=.loop lr:=by cases b <;> simp[isLoopB]
theorem aD:∀(a b:List Box),aR a b=true->SameLoops a b
 |[],bs,h=>⟨fun id lr e=>by simp at e,fun id lr e=>by
  have:=D7.1 h _ (DU e)
  simp[isLoopB]at this⟩
 |a::as0,b::bs,h=>by
  simp only[aR,D3,FR]at h;have ih:=aD as0 bs h.2;refine⟨fun id lr e=>?_,fun id lr e=>?_⟩
  ·cases id with
   |zero =>
    simp at e;subst e;obtain⟨lr',e'⟩:=jb.1 (h.1.symm.trans rfl:isLoopB b=true);exact⟨lr',by simp[e']⟩
   |succ id=>simpa using ih.1 id lr (by simpa using e)
  ·cases id with
   |zero =>
    simp at e;subst e;obtain⟨lr',e'⟩:=jb.1 (h.1.trans rfl:isLoopB a=true);exact⟨lr',by simp[e']⟩
   |succ id=>simpa using ih.2 id lr (by simpa using e)
 |a::as0,[],h=>by
  simp only[aR,D3,GB]at h;have ih:=aD as0 [] h.2;refine⟨fun id lr e=>?_,fun id lr e=>by simp at e⟩
  cases id with
  |zero=>simp at e;subst e;simp[isLoopB]at h
  |succ id=>simpa using ih.1 id lr (by simpa using e)
def bC(P:Program)(f:FuncId):Prop:=∀us w,(callFunc f us).run P w=.ok (.enter f us) w
theorem rt{f:FuncId}{fn:Func}{c:Code}(hf:P.funcs[f]?=some fn)(hb:fn.body=some c)(hn:(fn.name == "runtime.NumGoroutine")=false):bC P f:=fun us w=>by
 have:¬fn.name = "runtime.NumGoroutine":=by simpa using hn
 simp[callFunc,hf,hb,this]
theorem AF{a:Act}{tm:List (Nat×PV)}(hT:RepT G tm a.tmps){c:Call}{fo:Operand}(hc:c.callee=.value fo){g:FuncId}{first cap vs:List PV}(h1:evO tm fo=some (.fn (.func g) first cap))(h2:Ms tm c.args.toList=some vs)
 (he:bC P g) (o:Oper) (ho:o.op=.call c):∃us,(execOp a.eval o).run P w=.ok (.enter g us) w∧RepL G (first++(vs++cap)) us:=by
 have hr:=aH hT h1;have hL:=eO hT h2;generalize hfo:a.eval fo=fu at hr;cases hr with
 |fn hf l1 l2 r1 r2 =>
  rename_i us1 us2;refine⟨us1++c.args.map a.eval++us2,?_,?_⟩
  ·simp[execOp,ho,resolve,hc,hfo,Deferred.ofValue,invoke,he _ w]
  ·refine⟨by simp[l1,l2,hL.1,FF],fun j x u hx hu=>?_⟩
   rw[Array.append_assoc]at hu;by_cases hj:j<first.length
   ·rw[DY hj]at hx
    rw[ES (by omega)]at hu
    exact r1 j x u hx hu
   ·rw[D9 (by omega)]at hx
    rw[OM (by omega),l1]at hu
    by_cases hj2:j-first.length<vs.length
    ·rw[DY hj2]at hx
     rw[ES (by rw[hL.1];exact hj2)]at hu
     exact hL.2 _ x u hx hu
    ·rw[D9 (by omega)]at hx
     rw[OM (by rw[hL.1];omega),hL.1]at hu
     exact r2 _ x u hx hu
theorem dE.call{o:Oper}{c:Call}{fo:Operand}{g:FuncId}{first cap vs:List PV}{v:PV}{sg':List Box}(ho:o.op=.call c)(hc:c.callee=.value fo)(hd:∀d,o.dst=some d->d<st.n)
 (h1:evO st.tm fo=some (.fn (.func g) first cap)) (h2:Ms st.tm c.args.toList=some vs) (he:bC P g) (hcall:ab P g (first++(vs++cap)) st.sg (.ret v) sg') (hsl:SameLoops st.sg sg') :
 dE P o st .normal { tm:=putD st.tm o.dst v,n:=st.n,sg:=sg' }:=by
 refine⟨hcall.1,fun r n G a w db next Q hs k=>⟨fun f _=>trivial,?_⟩⟩
 obtain⟨us,hrun,hL⟩:=AF (P:=P) (w:=w) hs.tm hc h1 h2 he o ho;have hsem:o.semAt (FW r).round a.eval=execOp a.eval o:=Oper.semAt_eq _ _ _ (fun c' e=>by rw[ho]at e;cases e)
 rw[hsem,hrun,Oper.uponIn_enter];refine⟨fun h=>(by cases h),cv r (CallsIn.mono (hcall.2 _ G w us hs.rel hL) fun e w' ⟨G',hR',hl,hdf,hm⟩=>?_)⟩
 cases e with
 |panicked ch=>exact hm.elim
 |outgrown=>exact hm.elim
 |returned u =>
  have hS:RelS G' { tm:=putD st.tm o.dst v,n:=st.n,sg:=sg' } (a.put o.dst u) w' r db:=by
   refine⟨hR',RepT.putD (fun t x e=>?_) (fun d e=>hs.n▸hd d e) hm,(cD a o.dst u).trans hs.n,?_,fun l hl0=>?_⟩
   ·obtain⟨y,hy,hr⟩:=hs.tm t x e
    exact⟨y,hy,hr.monoM hl (hs.rel.len▸hr.lt)⟩
   ·obtain⟨own,h1,h2⟩:=hs.dfr
    exact⟨own,by rw[bO];exact h1,by rw[hdf];exact h2.1,h2.2⟩
   ·obtain⟨id,d,lr,h1,h2⟩:=hs.rd l hl0
    obtain⟨lr',h3⟩:=hsl.1 id lr h2;obtain⟨lr',h3,h4⟩:=cj (lr:=lr) hR' hl (DR.1 h2).1 h1 (fun hg=>by rw[h3]at hg;cases hg)
    exact⟨id,d,lr',h3,h4⟩
  rcases k .normal (a.put o.dst u) w' G' trivial hS hl with ⟨_,hn⟩|⟨hn,_⟩
  ·exact hn
  ·exact absurd rfl hn
def ik:Nat->List PV->List (Nat×PV)
 |_,[]=>[]
 |k,v::vs=>(k,v)::ik (k+1) vs
theorem uj:∀(vs:List PV) (k t:Nat) (v:PV),b9 (ik k vs) t=some v->k<=t∧vs[t-k]?=some v
 |[],k,t,v,h=>by cases h
 |x::vs,k,t,v,h=>by
  unfold ik b9 at h;split at h
  ·rename_i hk
   subst hk;cases h;simp
  ·rename_i hk
   obtain⟨h1,h2⟩:=uj vs (k+1) t v h;refine⟨by omega,?_⟩
   rw[show t-k=(t-(k+1))+1 by omega]
   simpa using h2
def res1(T:TypeId->TyI)(st:St):ResultVar->Option PV
 |.tmp t=>b9 st.tm t
 |.cell a t=>if(T t).d.ok=true then match b9 st.tm a with
  |some p=>match ptrC st.sg p with
   |some cs=>zj (T t) cs
   |none=>none
  |none=>none
  else none
def resL(T:TypeId->TyI)(st:St):List ResultVar->Option (List PV)
 |[]=>some []
 |x::xs=>match res1 T st x,resL T st xs with
  |some v,some vs=>some (v::vs)
  |_,_=>none
def tup:List PV->PV
 |[v]=>v
 |vs=>.tuple vs
def si(T:TypeId->TyI)(st:St)(rs:Array ResultVar):Option PV :=
 match resL T st rs.toList with
 |some vs=>some (tup vs)
 |none=>none
theorem res1_ok(hT:TyT P T){a:Act}(hR:Rel G st.sg w)(hTm:RepT G st.tm a.tmps){x:ResultVar}{v:PV}(h:res1 T st x=some v):
 ∃u,(match x with|.tmp t=>pure (a.tmps.getD t Go.undef)|.cell b t=>do loadVar t (←asAddr (a.tmps.getD b Go.undef)):Sem Value).run P w=.ok u w∧Rep G v u:=by
 cases x with
 |tmp t =>
  obtain⟨u,hu,hr⟩:=hTm t v h;exact⟨u,by simp[EH,hu],hr⟩
 |cell b t =>
  simp only[res1]at h;split at h <;> try (cases h;done)
  rename_i hok;split at h <;> try (cases h;done)
  rename_i p hp;split at h <;> try (cases h;done)
  rename_i cs hcs;obtain⟨u,hu,hr⟩:=hTm b p hp;obtain⟨g,off,rfl,h1,h2⟩:=nT hR hr hcs;obtain⟨x,hx,hxr⟩:=z8 (P:=P) (hT t hok) h1 h2 h;refine⟨x,?_,hxr⟩;have e:a.tmps.getD b Go.undef=.pointer (some ⟨g,off,none⟩):=by simp[EH,hu]
  simp only[e,asAddr,Sem.run_bind,Sem.run_pure,Result.andThen_ok];simpa[Instr.loadAt,Instr.sureAddr]using hx
theorem yS(hT:TyT P T){a:Act}(hR:Rel G st.sg w)(hTm:RepT G st.tm a.tmps):∀{xs:List ResultVar} {vs:List PV},resL T st xs=some vs ->
 ∃us:List Value,(xs.mapM fun x=>(match x with|.tmp t=>pure (a.tmps.getD t Go.undef)|.cell b t=>do loadVar t (←asAddr (a.tmps.getD b Go.undef)):Sem Value)).run P w=.ok us w∧us.length=vs.length∧∀(j:Nat) (c:PV) (u:Value),vs[j]?=some c->us[j]?=some u->Rep G c u
 |[],vs,h=>by cases h;exact⟨[],rfl,rfl,fun j c u h=>by simp at h⟩
 |x::xs,vs,h=>by
  unfold resL at h;split at h <;> cases h
  rename_i h1 h2;obtain⟨u,hu,hr⟩:=res1_ok (P:=P) hT hR hTm h1;obtain⟨us,e1,e2,e3⟩:=yS hT hR hTm h2;refine⟨u::us,by rw[Gy,Sem.run_bind,hu,Result.andThen_ok,Sem.run_bind,e1];rfl,by simp[e2],fun j c y hc hy=>?_⟩
  cases j with
  |zero=>simp at hc hy;subst hc;subst hy;exact hr
  |succ j=>exact e3 j c y (by simpa using hc) (by simpa using hy)
theorem qc(hT:TyT P T){a:Act}{fn:Func}(hR:Rel G st.sg w)(hTm:RepT G st.tm a.tmps){v:PV}(h:si T st fn.results=some v):∃u,(results fn a.tmps).run P w=.ok u w∧Rep G v u:=by
 unfold si at h;split at h <;> cases h
 rename_i vs hvs;obtain⟨us,e1,e2,e3⟩:=yS (P:=P) hT hR hTm hvs;have hm:(fn.results.mapM fun x=>(match x with|.tmp t=>pure (a.tmps.getD t Go.undef)|.cell b t=>do loadVar t (←asAddr (a.tmps.getD b Go.undef)):Sem Value)).run P w=.ok us.toArray w:=by
  rw[Array.mapM_eq_mapM_toList,Sem.run_map,e1];rfl
 refine⟨if h:us.toArray.size=1 then us.toArray[0]else .tuple us.toArray,?_,?_⟩
 ·unfold results
  rw[Sem.run_bind]
  erw [hm]
  rfl
 ·have key:vs.length≠1->Rep G (.tuple vs) (if h:us.toArray.size=1 then us.toArray[0]else .tuple us.toArray):=fun hne=>by
   rw[dif_neg (by simp[e2];exact hne)]
   exact .tuple (by simp[e2]) fun j c u hc hu=>e3 j c u hc (by simpa using hu)
  match vs,us,e2,e3,key with
  |[v],[u],_,e3,_=>exact e3 0 v u rfl rfl
  |[],us,_,_,key=>exact key (by simp)
  |_::_::_,us,_,_,key=>exact key (by simp)
theorem eN{db:List Nat}{ds:List Deferred}{fn:Func}{tmps:Array Value}{R:Ending->World->Prop}{u:FrameMode}(hu:u≠.run){n:Nat}:
 ∀(own:List Nat) (G:Gh) (w:World),Rel G sg w->G.dfr=own++db->own.Nodup->(∀D∈own,D∉db)->(∀(id g d:Nat) (lr:LoopR),G.rho[id]?=some (.lp g d)->sg[id]?=some (.loop lr)->d∈db) ->
  (∀G' w',Rel G' sg w'->G.le G'->G'.dfr=db->LeavesInM Fence.wide n P fn tmps R ds u w')->LeavesInM Fence.wide n P fn tmps R (own.map markD++ds) u w
 |[],G,w,hR,hdf,_,_,_,k=>k G w hR G.le_refl (by simpa using hdf)
 |D::own,G,w,hR,hdf,hnd,hdis,hlp,k=>by
  have hD:D∈G.dfr:=by rw[hdf];simp
  have hh:=(hR.dfr D hD);have hlt:=ba hh.2;have hoth:∀(k:Nat) (o:Obj),w.heap[k]?=some o->o≠.deferred (some [])->(w.putObj D (.deferred none)).heap[k]?=some o:=fun k o hk ho=>by
   rw[World.putObj_heap_other (fun e=>ho (by rw[e,hh.2]at hk;exact(Option.some.inj hk).symm))]
   exact hk
  have hR':Rel { G with dfr:=own++db } sg (w.putObj D (.deferred none)):=by
   refine⟨?_,hR.len,fun id s b hs hb=>?_,hR.inj,fun g o v e=>?_,fun g es c e=>hoth g _ (hR.stM g es c e) (by simp),fun b hb=>?_,hR.tab⟩
   ·exact hR.below.grown (grownBy_putObj' w D _) hR.base_le (fun k e=>by cases e;exact hh.1)
   ·have hok:=hR.box id s b hs hb
    have hreps:∀v x,Rep G v x->Rep { G with dfr:=own++db } v x:=fun v x h=>Rep.mono (G:=G) (G':={ G with dfr:=own++db }) ⟨rfl,fun _ _ _ e=>e,fun _ _ e=>e,fun _ _ _=>rfl,fun _ _=>rfl,fun _ s e=>⟨s,e,s.le_refl⟩⟩ h
    by_cases hbg:b=.gone
    ·subst hbg
     simp only[BoxOk]at hok ⊢;intro g hg;exact⟨(hok g hg).1,by rw[World.putObj_size];exact(hok g hg).2⟩
    ·have hkeep:∀g,s.block=some g->(w.putObj D (.deferred none)).heap[g]?=w.heap[g]?:=fun g hg=>World.putObj_heap_other (fun e=>kH hR hs hb hg hbg (e▸hD))
     by_cases hlb:isLoopB b=true
     ·obtain⟨lr,rfl⟩:=jb.1 hlb
      cases s <;> simp only[BoxOk]at hok ⊢
      rename_i g d;obtain⟨h1,tm,h2,h3,h4,h5⟩:=hok;exact⟨h1,tm,⟨h2.choose,(hkeep g rfl).trans h2.choose_spec⟩,h3,fun t v e=>let ⟨y,hy,r⟩:=h4 t v e;⟨y,hy,hreps _ _ r⟩,Fp _ (hlp id g d lr hs hb)⟩
     ·cases b
      case loop=>simp[isLoopB]at hlb
      case gone=>exact absurd rfl hbg
      case dead=>cases s <;> simp only[BoxOk]at hok ⊢
      case var =>
       cases s <;> simp only[BoxOk]at hok ⊢
       obtain⟨h1,⟨us,T,h2,h3⟩,h4⟩:=hok;exact⟨h1,⟨us,T,(hkeep _ rfl).trans h2,⟨h3.1,fun j c u a b=>hreps _ _ (h3.2 j c u a b)⟩⟩,h4⟩
      case row =>
       cases s <;> simp only[BoxOk]at hok ⊢
       obtain⟨h1,h2,h3,h4,h5,⟨us,⟨a,h6⟩,h7⟩,h8⟩:=hok;refine⟨h1,h2,h3,h4,h5,⟨us,⟨a,?_⟩,⟨h7.1,fun j c u a b=>hreps _ _ (h7.2 j c u a b)⟩⟩,h8⟩
       rcases h6 with h6|⟨g,cap,cur,hv,r1,r2,r3⟩
       ·exact .inl h6
       ·exact .inr ⟨g,cap,cur,hv,r1,(hkeep g (by subst hv;rfl)).trans r2,r3⟩
      case map =>
       cases s <;> simp only[BoxOk]at hok ⊢
       obtain⟨h1,h2,es,c,ls,h4,hp,h5,h6,h7,h8,h9⟩:=hok;exact⟨h1,h2,es,c,ls,(hkeep _ rfl).trans h4,hp,h5,h6,fun j e k a b=>hreps _ _ (h7 j e k a b),fun j e k a b=>hreps _ _ (h8 j e k a b),h9⟩
      case sit =>
       cases s <;> simp only[BoxOk]at hok ⊢
       exact⟨hok.1,(hkeep _ rfl).trans hok.2⟩
      case ext =>
       cases s <;> simp only[BoxOk]at hok ⊢
       obtain⟨h1,⟨o,h2,h3⟩,h4⟩:=hok;exact⟨h1,⟨o,(hkeep _ rfl).trans h2,h3⟩,h4⟩
   ·have:=hR.st g o v e
    unfold World.cell? at this ⊢;cases hg:w.heap[g]? with
    |none=>rw[hg]at this;cases this
    |some ob =>
     rw[hg]at this;rw[hoth g ob hg (by rintro rfl;simp at this)]
     exact this
   ·have hb0:b∈G.dfr:=by rw[hdf];exact DW _ hb
    have hne:b≠D:=by
     rintro rfl;rcases Ez.1 hb with h|h
     ·exact(Gc.1 hnd).1 h
     ·exact hdis b (DV ..) h
    exact⟨(hR.dfr b hb0).1,by rw[World.putObj_heap_other hne];exact(hR.dfr b hb0).2⟩
  refine⟨hu,.inl ⟨D,w.putObj D (.deferred none),rfl,run_takeDeferred hh.2,?_⟩⟩;refine eN hu own _ _ hR' rfl (Gc.1 hnd).2 (fun D' h=>hdis D' (DW _ h)) hlp fun G' w' h1 h2 h3=>k G' w' h1 ?_ h3
  exact⟨h2.w0,h2.S,h2.SM,h2.old,h2.oldM,h2.rho⟩
theorem fY{G:Gh}{args:List PV}{us:Array Value}(hL:RepL G args us)(m:Nat):RepT G (ik 0 args) (us++Array.replicate m Go.undef):=by
 intro t v h;obtain⟨_,h2⟩:=uj args 0 t v h;simp only[Nat.sub_zero]at h2;have hlt:t<us.size:=by rw[hL.1];exact(DR.1 h2).1
 exact⟨us[t],by rw[ES hlt];exact ED hlt,hL.2 t v _ h2 (ED hlt)⟩
def Out.ends:Out->Bool
 |.normal=>true
 |.ret=>true
 |_=>false
theorem ab.body(hT:TyT P T){f:FuncId}{fn:Func}{c:Code}{args:List PV}{n0:Nat}(hf:P.funcs[f]?=some fn)(hb:fn.body=some c)(hn0:n0=args.length+(fn.ntmps-args.length))
 (hrun:Run P c ⟨ik 0 args,n0,sg⟩ out st') (hout:out.ends=true) {v:PV} (hres:si T st' fn.results=some v) (hsl:SameLoops sg st'.sg):ab P f args sg (.ret v) st'.sg:=by
 refine⟨hrun.1,fun n G w us hR hL=>callsIn_of_wp_marks hf hb trivial ?_⟩
 have hS:RelS G ⟨ik 0 args,n0,sg⟩ { tmps:=us++Array.replicate (fn.ntmps-us.size) Go.undef,defers:=[] } w none (G.dfr,[]) :=
  ⟨hR,fY hL _,by simp[hn0,hL.1],⟨[],rfl,rfl,FI,(fun D h=>by cases h),fun _=>rfl⟩,fun l h=>by cases h⟩
 refine hrun.2 none n G _ w (G.dfr,[]) _ hS fun e a' w' G' he hs' hl=>?_
 obtain⟨own,h1,h2,h3,h4,_⟩:=hs'.dfr;have hlp:∀(id g d:Nat) (lr:LoopR),G'.rho[id]?=some (.lp g d)->st'.sg[id]?=some (.loop lr)->d∈G.dfr:=fun id g d lr e1 e2=>by
  obtain⟨lr0,h0⟩:=hsl.2 id lr e2;obtain⟨s0,hs0,hok⟩:=hR.slot h0;cases s0 <;> simp only[BoxOk]at hok
  obtain⟨_,tm,_,_,_,hd⟩:=hok;obtain⟨s1,e1',hle⟩:=hl.rho id _ (DR.1 h0).1 hs0;rw[e1]at e1';cases e1';obtain⟨_,rfl⟩:=hle;exact hd
 have fin:LeavesInM Fence.wide n P fn a'.tmps (fun e w'=>∃G',Rel G' st'.sg w'∧Gh.leM sg.length G G'∧G'.dfr=G.dfr∧match PRes.ret v,e with
  |.ret v,.returned u=>Rep G' v u
  |.pan v,.panicked ch=>∃u,ch=[{ v:=u,recovered:=false }]∧Rep G' v u
  |_,_=>False) a'.defers .returning w':=by
  rw[h1];refine eN (by simp) own G' w' hs'.rel h2 h3 h4 hlp fun G2 w2 hR2 hle2 hdf2=>?_
  obtain⟨u,hu,hr⟩:=qc (P:=P) (fn:=fn) hT hR2 (hs'.tm.mono hle2) hres;exact⟨u,hu,G2,hR2,hl.trans (hle2.leM st'.sg.length) hrun.1,hdf2,hr⟩
 cases out <;> cases e <;> first|exact fin|exact he.elim|cases hout
theorem ab.bodyP{f:FuncId}{fn:Func}{c:Code}{args:List PV}{n0:Nat}{v:PV}(hf:P.funcs[f]?=some fn)(hb:fn.body=some c)(hn0:n0=args.length+(fn.ntmps-args.length))
 (hrun:Run P c ⟨ik 0 args,n0,sg⟩ (.panic v) st') (hsl:SameLoops sg st'.sg):ab P f args sg (.pan v) st'.sg:=by
 refine⟨hrun.1,fun n G w us hR hL=>callsIn_of_wp_marks hf hb trivial ?_⟩
 have hS:RelS G ⟨ik 0 args,n0,sg⟩ { tmps:=us++Array.replicate (fn.ntmps-us.size) Go.undef,defers:=[] } w none (G.dfr,[]) :=
  ⟨hR,fY hL _,by simp[hn0,hL.1],⟨[],rfl,rfl,FI,(fun D h=>by cases h),fun _=>rfl⟩,fun l h=>by cases h⟩
 refine hrun.2 none n G _ w (G.dfr,[]) _ hS fun e a' w' G' he hs' hl=>?_
 obtain⟨own,h1,h2,h3,h4,_⟩:=hs'.dfr;have hlp:∀(id g d:Nat) (lr:LoopR),G'.rho[id]?=some (.lp g d)->st'.sg[id]?=some (.loop lr)->d∈G.dfr:=fun id g d lr e1 e2=>by
  obtain⟨lr0,h0⟩:=hsl.2 id lr e2;obtain⟨s0,hs0,hok⟩:=hR.slot h0;cases s0 <;> simp only[BoxOk]at hok
  obtain⟨_,tm,_,_,_,hd⟩:=hok;obtain⟨s1,e1',hle⟩:=hl.rho id _ (DR.1 h0).1 hs0;rw[e1]at e1';cases e1';obtain⟨_,rfl⟩:=hle;exact hd
 cases e <;> first|exact he.elim|skip
 rename_i ch;obtain⟨u,rfl,hr⟩:=he;show LeavesInM Fence.wide n P fn a'.tmps _ a'.defers (.panicking _) w';rw[h1];refine eN (by simp) own G' w' hs'.rel h2 h3 h4 hlp fun G2 w2 hR2 hle2 hdf2=>?_
 exact⟨G2,hR2,hl.trans (hle2.leM st'.sg.length) hrun.1,hdf2,u,rfl,hr.mono hle2⟩
theorem ab.frame{f:FuncId}{args:List PV}{v:PV}(h:ab P f args [] (.ret v) [])(hlt:∀x∈args,Lt 0 x)(sg:List Box):ab P f args sg (.ret v) sg:=by
 refine⟨DS _,fun n G w us hR hL=>?_⟩
 let G0:Gh:={ w0:=w,S:=G.S,SM:=G.SM,rho:=[],dfr:=[] }
 have hR0:Rel G0 [] w:=⟨Below.refl _ w,rfl,fun id s b hs=>by simp[G0]at hs,fun i j s s' g _ hs=>by simp[G0]at hs,hR.st,hR.stM,(fun b hb=>by cases hb),hR.tab.mono hR.below⟩
 have hL0:RepL G0 args us:=⟨hL.1,fun j c u hc hu=>Rep.lower (G:=G) (G':=G0) (m:=0) (fun _ _ _ e=>e) (fun _ _ e=>e) (fun id h=>by omega) (hL.2 j c u hc hu) (hlt c (DU hc))⟩
 refine CallsIn.mono (h.2 n G0 w us hR0 hL0) fun e w' ⟨G0',hR0',hl0,hdf0,hm⟩=>?_
 have hw0:G0'.w0=w:=hl0.w0;have hbel:Below w.heap.size w w':=by have:=hR0'.below;rw[hw0]at this;exact this
 have hrho:G0'.rho=[]:=EB hR0'.len
 let G':Gh:={ G with S:=G0'.S,SM:=G0'.SM }
 have hle:G.le G':=⟨rfl,hl0.S,hl0.SM,fun g o hg=>hl0.old g o (Fj hg hR.base_le),fun g hg=>hl0.oldM g (Fj hg hR.base_le),fun id s hs=>⟨s,hs,s.le_refl⟩⟩
 have hRk:=hR.keep hbel;have hR':Rel G' sg w':=by
  refine⟨hRk.below,hRk.len,fun id s b hs hb=>?_,hRk.inj,hR0'.st,hR0'.stM,hRk.dfr,hR.tab⟩
  have hb0:=hR.box id s b hs hb;exact(hRk.box id s b hs hb).keep (DS _) (fun _ _ r=>r.mono hle) rfl (fun _ _=>rfl) (fun g hg o e=>by
   have:=hl0.old g o (hb0.blk hg).2
   show G0'.S g o=none;rw[this];exact e) (fun g hg e=>by
   have:=hl0.oldM g (hb0.blk hg).2
   show G0'.SM g=none;rw[this];exact e) (fun _ e=>e)
 refine⟨G',hR',hle.leM _,rfl,?_⟩;cases e with
 |panicked ch=>exact hm.elim
 |outgrown=>exact hm.elim
 |returned u =>
  have hm':Rep G0' v u:=hm;have hlt:=hm'.lt;rw[hrho]at hlt;exact Rep.lower (G:=G0') (G':=G') (m:=0) (fun _ _ _ e=>e) (fun _ _ e=>e) (fun id h=>by omega) hm' hlt
end
def PV.id1:PV->List Nat
 |.ms id _=>[id]
 |.mp id=>[id]
 |.bp id _=>[id]
 |.rp id _ _ _=>[id]
 |.pf id _ _=>[id]
 |.yl id=>[id]
 |_=>[]
def PV.deep1(v:PV):List Nat:=v.cells.flatMap PV.id1
def PV.ids:PV->List Nat
 |.ms id _=>[id]
 |.mp id=>[id]
 |.bp id _=>[id]
 |.rp id _ _ _=>[id]
 |.pf id _ _=>[id]
 |.yl id=>[id]
 |.fn _ a b=>(a++b).flatMap PV.deep1
 |_=>[]
def PV.deep(v:PV):List Nat:=v.cells.flatMap PV.ids
theorem ids_deep{v:PV}{id:Nat}(h:id∈v.ids):id∈v.deep:=by
 cases v <;> first|(simp[PV.ids]at h;done)|(simpa[PV.deep,PV.cells]using h)
theorem id1_ids{v:PV}{id:Nat}(h:id∈v.id1):id∈v.ids:=by
 cases v <;> first|exact h|(simp[PV.id1]at h)
theorem ou{v:PV}{id:Nat}(h:id∈v.deep1):id∈v.deep:=by
 obtain⟨c,hc,hi⟩:=Es.1 h;exact Es.2 ⟨c,hc,id1_ids hi⟩
section
variable {T:TypeId->TyI} {sg sg':List Box}
theorem wF{v:PV}(h:∀id∈v.ids,sg'[id]?=sg[id]?):ptrC sg' v=ptrC sg v:=by
 cases v <;> simp only[PV.ids,Ed,Fs,Eb]at h <;> simp only[ptrC,h]
theorem qS{p v:PV}(h:∀id∈p.ids,sg'[id]?=sg[id]?):m4 sg' p v=m4 sg p v:=by
 cases p <;> simp only[PV.ids,Ed,Fs,Eb]at h <;> simp only[m4,h]
theorem kJ{p:PV}{d:Nat}(h:∀id∈p.ids,sg'[id]?=sg[id]?):kN sg' p d=kN sg p d:=by
 cases p <;> simp only[PV.ids,Ed,Fs,Eb]at h <;> simp only[kN,h]
theorem lm{t:TypeId}{p:PV}{f:Nat}(h:∀id∈p.ids,sg'[id]?=sg[id]?):dK T sg' t p f=dK T sg t p f:=by
 simp only[dK,kJ h]
theorem lj{t:TypeId}{p i:PV}(h:∀id∈p.ids,sg'[id]?=sg[id]?):dP T sg' t p i=dP T sg t p i:=by
 unfold dP;simp only[kJ h];generalize (T t).d=d;cases i <;> cases d <;> first|rfl|(cases p <;> simp only[PV.ids,Ed,Fs,Eb]at h <;> first|rfl|simp only[h])
theorem wp{t:TypeId}{p:PV}(h:∀id∈p.ids,sg'[id]?=sg[id]?):lenC T sg' t p=lenC T sg t p:=by
 unfold lenC;generalize (T t).d=d;cases d <;> first|rfl|(cases p <;> simp only[PV.ids,Ed,Fs,Eb]at h <;> first|rfl|simp only[h])
theorem oe{x:PV}(h:∀id∈x.ids,sg'[id]?=sg[id]?):rowX sg' x=rowX sg x:=by
 cases x <;> simp only[PV.ids,Ed,Fs,Eb]at h <;> simp only[rowX,h]
theorem jx{t:TypeId}{fid:Nat}{p x:PV}(h:∀id∈p.ids,sg'[id]?=sg[id]?)(hx:∀id∈x.ids,sg'[id]?=sg[id]?):fA T sg' fid t p x=fA T sg fid t p x:=by
 unfold fA;rw[oe hx];cases p <;> simp only[PV.ids,Ed,Fs,Eb]at h <;> first|rfl|(simp only[h];done)|skip
 rename_i z es;cases z <;> rfl
theorem IY{t:TypeId}{fid:Nat}{p x:PV}(h:∀id∈p.ids,sg'[id]?=sg[id]?)(hx:∀id∈x.ids,sg'[id]?=sg[id]?):ed T sg' fid t p x=ed T sg fid t p x:=by
 unfold ed;cases p <;> first|exact jx h hx|skip
 case pf id d m =>
  have h':sg'[id]?=sg[id]?:=h id (by simp[PV.ids])
  simp only[h',oe hx,jx (p:=.ms id m) (fun i hi=>by simp[PV.ids]at hi;subst hi;exact h') hx,yA]
theorem wA{p:PV}(h:∀id∈p.ids,sg'[id]?=sg[id]?):xc sg' p=xc sg p:=by
 cases p <;> simp only[PV.ids,Ed,Fs,Eb]at h <;> simp only[xc,h]
theorem pi{t:TypeId}{p k:PV}{ok:Bool}(h:∀id∈p.ids,sg'[id]?=sg[id]?):eI T sg' t p k ok=eI T sg t p k ok:=by
 simp only[eI,wA h]
theorem Lx{t:TypeId}{p k v:PV}(h:∀id∈p.ids,sg'[id]?=sg[id]?):cN T sg' t p k v=cN T sg t p k v:=by
 unfold cN;generalize (T t).d=d;cases d <;> first|rfl|(cases p <;> simp only[PV.ids,Ed,Fs,Eb]at h <;> first|rfl|simp only[h])
theorem tj{p:PV}(h:∀id∈p.ids,sg'[id]?=sg[id]?):wL sg' p=wL sg p:=by
 cases p <;> simp only[PV.ids,Ed,Fs,Eb]at h <;> (first|rfl|skip)
 rename_i id off;cases off <;> simp only[wL,h]
theorem pZ{t:TypeId}{p:PV}{lo hi mx:Option PV}(h:∀id∈p.ids,sg'[id]?=sg[id]?):iW T sg' t p lo hi mx=iW T sg t p lo hi mx:=by
 unfold iW;cases p <;> simp only[PV.ids,Ed,Fs,Eb]at h <;> first|rfl|(cases lo <;> cases hi <;> first|rfl|(rename_i y;cases y <;> first|rfl|simp only[h]))
theorem np{p:PV}(h:∀id∈p.ids,sg'[id]?=sg[id]?):gc sg' p=gc sg p:=by
 cases p <;> simp only[PV.ids,Ed,Fs,Eb]at h <;> simp only[gc,h]
theorem l9{t:TypeId}{p:PV}(h:∀id∈p.ids,sg'[id]?=sg[id]?):eU T sg' t p=eU T sg t p:=by
 unfold eU;generalize (T t).d=d;cases d <;> first|rfl|(cases p <;> simp only[PV.ids,Ed,Fs,Eb]at h <;> first|rfl|simp only[h])
theorem om{t:TypeId}{yc:Bool}{x y:PV}(h:∀id∈x.ids,sg'[id]?=sg[id]?):eqlC T sg' t yc x y=eqlC T sg t yc x y:=by
 unfold eqlC;generalize (T t).d=d;cases x <;> simp only[PV.ids,Ed,Fs,Eb]at h <;> first|(simp only[h];done)|skip
 all_goals cases d <;> first|rfl|(cases y <;> first|rfl|(rename_i z es;cases z <;> first|rfl|simp only[h]))
theorem wP{op:BinOp}{t:TypeId}{yc:Bool}{x y:PV}(h:∀id∈x.ids,sg'[id]?=sg[id]?):binC T sg' op t yc x y=binC T sg op t yc x y:=by
 unfold binC;split
 ·rfl
 ·rfl
 ·rename_i n1 n2
  split
  ·rw[om h]
  ·rw[om h]
  ·rfl
theorem nc{fid:Nat}{b:Builtin}{ts:List TypeId}{vs:List PV}(h:∀v∈vs,∀id∈v.ids,sg'[id]?=sg[id]?):iz T sg' fid b ts vs=iz T sg fid b ts vs:=by
 cases b
 case append =>
  match ts,vs,h with
  |[t,t'],[s,x],h =>
   show(if t=t' then ed T sg' fid t s x else none)=(if t=t' then ed T sg fid t s x else none)
   rw[IY (h s (by simp)) (h x (by simp))]
  |[],_,_|[_],_,_|_::_::_::_,_,_=>rfl
  |[_,_],[],_|[_,_],[_],_|[_,_],_::_::_::_,_=>rfl
 case len =>
  match ts,vs,h with
  |[t],[x],h =>
   show x7 (lenC T sg' t x)=x7 (lenC T sg t x);rw[wp (h x (by simp))]
  |[],_,_|_::_::_,_,_=>rfl
  |[_],[],_|[_],_::_::_,_=>rfl
 case max=>cases vs with
  |nil=>rfl
  |cons v vs=>cases v <;> rfl
 case min=>cases vs with
  |nil=>rfl
  |cons v vs=>cases v <;> rfl
 all_goals rfl
end
section
variable {T:TypeId->TyI} {sg sg':List Box} {tm tm':List (Nat×PV)}
def opdT:Operand->List Nat
 |.tmp t=>[t]
 |_=>[]
theorem eY{x:Operand}(h:∀t∈opdT x,b9 tm' t=b9 tm t):evO tm' x=evO tm x:=by
 cases x <;> simp only[opdT,Ed,Fs,Eb]at h <;> first|rfl|exact h
theorem eH:∀{xs:List Operand},(∀x∈xs,∀t∈opdT x,b9 tm' t=b9 tm t)->Ms tm' xs=Ms tm xs
 |[],_=>rfl
 |x::xs,h=>by
  unfold Ms;rw[eY (h x (DV ..)),eH fun y hy=>h y (DW _ hy)]
theorem j9:∀{xs:List (Nat×Operand)},(∀x∈xs,∀t∈opdT x.2,b9 tm' t=b9 tm t)->evPs tm' xs=evPs tm xs
 |[],_=>rfl
 |(i,x)::xs,h=>by
  unfold evPs;rw[eY (h (i,x) (DV ..)),j9 fun y hy=>h y (DW _ hy)]
theorem jV{x:Option Operand}(h:∀y,x=some y->∀t∈opdT y,b9 tm' t=b9 tm t):se tm' x=se tm x:=by
 cases x with
 |none=>rfl
 |some x=>simp only[se];rw[eY (h x rfl)]
def opTs(o:Op):List Nat:=o.operands.toList.flatMap opdT
def tM:Op->Bool
 |.move _=>true
 |.assign _=>true
 |.pick ..=>true
 |.extract ..=>true
 |_=>false
def gM(tm:List (Nat×PV))(o:Op):List Nat:=if tM o=true then[]else o.operands.toList.flatMap fun x=>match evO tm x with
 |some v=>v.deep
 |none=>[]
theorem jP{o:Op}(hq:tM o=false){x:Operand}{v:PV}{id:Nat}(hx:x∈o.operands.toList)(hv:evO tm x=some v)(hid:id∈v.deep):id∈gM tm o:=by
 unfold gM;rw[hq];exact Es.2 ⟨x,hx,by rw[hv];exact hid⟩
theorem lF:∀{xs:List Operand} {vs:List PV},Ms tm xs=some vs->∀v∈vs,∃x∈xs,evO tm x=some v
 |[],vs,h,v,hv=>by cases h;cases hv
 |x::xs,vs,h,v,hv=>by
  unfold Ms at h;split at h <;> cases h
  rename_i h1 h2;rcases D6.1 hv with rfl|hv
  ·exact⟨x,DV ..,h1⟩
  ·obtain⟨y,hy,e⟩:=lF h2 v hv
   exact⟨y,DW _ hy,e⟩
theorem xg{o:Op}{fid:Nat}(ht:∀t∈opTs o,b9 tm' t=b9 tm t)(hi:∀id∈gM tm o,sg'[id]?=sg[id]?){r:PV×Eff}(h:opC T tm sg fid o=some r):opC T tm' sg' fid o=some r:=by
 have hE:∀x∈o.operands.toList,evO tm' x=evO tm x:=fun x hx=>eY fun t ht'=>ht t (Es.2 ⟨x,hx,ht'⟩)
 have hB:tM o=false->∀x∈o.operands.toList,∀v,evO tm x=some v->∀id∈v.ids,sg'[id]?=sg[id]?:=fun hq x hx v hv id hid=>hi id (jP hq hx hv (ids_deep hid))
 rw[←h];cases o <;> first|rfl|skip
 case move x=>simp only[opC,hE x (by simp[Op.operands])]
 case assign x=>simp only[opC,hE x (by simp[Op.operands])]
 case pick c a b=>simp only[opC,hE c (by simp[Op.operands]),hE a (by simp[Op.operands]),hE b (by simp[Op.operands])]
 case box t x=>simp only[opC,hE x (by simp[Op.operands])]
 case build t ps =>
  simp only[opC];rw[j9 fun x hx t ht'=>ht t (Es.2 ⟨x.2,by simpa[Op.operands]using⟨x.1,by simpa using hx⟩,ht'⟩)]
 case buildSlice t n ps =>
  simp only[opC];rw[j9 fun x hx t ht'=>ht t (Es.2 ⟨x.2,by simpa[Op.operands]using⟨x.1,by simpa using hx⟩,ht'⟩)]
 case load t x =>
  simp only[opC,hE x (by simp[Op.operands])]
  have:=hB rfl x (by simp[Op.operands])
  cases hx:evO tm x with
  |none=>rfl
  | some p => try simp only
              rw[wF (this p hx)]
 case store t x y =>
  simp only[opC,hE x (by simp[Op.operands]),hE y (by simp[Op.operands])]
  have:=hB rfl x (by simp[Op.operands])
  cases hx:evO tm x with
  |none=>rfl
  |some p =>
   cases evO tm y <;> first|rfl|skip
   try simp only
   rw[qS (this p hx)]
 case nilCheck x=>simp only[opC,hE x (by simp[Op.operands])]
 case binOp op t x y yt =>
  simp only[opC,hE x (by simp[Op.operands]),hE y (by simp[Op.operands])]
  have:=hB rfl x (by simp[Op.operands])
  cases hx:evO tm x with
  |none=>rfl
  |some p =>
   cases evO tm y <;> first|rfl|skip
   try simp only
   rw[wP (this p hx)]
 case unOp op t x=>simp only[opC,hE x (by simp[Op.operands])]
 case convert s d x=>simp only[opC,hE x (by simp[Op.operands])]
 case makeInterface t x=>simp only[opC,hE x (by simp[Op.operands])]
 case makeFunc f a b =>
  simp only[opC];rw[eH fun x hx t ht'=>ht t (Es.2 ⟨x,by simp[Op.operands]at hx ⊢;exact .inl hx,ht'⟩),eH fun x hx t ht'=>ht t (Es.2 ⟨x,by simp[Op.operands]at hx ⊢;exact .inr hx,ht'⟩)]
 case makeMap t r=>cases r <;> rfl
 case makeSlice t l c=>simp only[opC,hE l (by simp[Op.operands]),hE c (by simp[Op.operands])]
 case slice t x lo hi' mx =>
  simp only[opC,hE x (by simp[Op.operands])]
  rw[jV (tm:=tm) (tm':=tm') (x:=lo) fun y hy t ht'=>ht t (Es.2 ⟨y,by simp[Op.operands,hy],ht'⟩),jV (tm:=tm) (tm':=tm') (x:=hi') fun y hy t ht'=>ht t (Es.2 ⟨y,by simp[Op.operands,hy],ht'⟩),
   jV (tm:=tm) (tm':=tm') (x:=mx) fun y hy t ht'=>ht t (Es.2 ⟨y,by simp[Op.operands,hy],ht'⟩)]
  have:=hB rfl x (by simp[Op.operands])
  cases hx:evO tm x with
  |none=>rfl
  |some p =>
   cases se tm lo <;> first|rfl|skip
   cases se tm hi' <;> first|rfl|skip
   cases se tm mx <;> first|rfl|skip
   try simp only
   rw[pZ (this p hx),np (this p hx),l9 (this p hx)]
 case fieldAddr t x f =>
  simp only[opC,hE x (by simp[Op.operands])]
  have:=hB rfl x (by simp[Op.operands])
  cases hx:evO tm x with
  |none=>rfl
  | some p => try simp only
              rw[lm (this p hx)]
 case field t x f=>simp only[opC,hE x (by simp[Op.operands])]
 case indexAddr t x i =>
  simp only[opC,hE x (by simp[Op.operands]),hE i (by simp[Op.operands])]
  have:=hB rfl x (by simp[Op.operands])
  cases hx:evO tm x with
  |none=>rfl
  |some p =>
   cases evO tm i <;> first|rfl|skip
   try simp only
   rw[lj (this p hx)]
 case index t x i=>simp only[opC,hE x (by simp[Op.operands]),hE i (by simp[Op.operands])]
 case lookup t m k ok =>
  simp only[opC,hE m (by simp[Op.operands]),hE k (by simp[Op.operands])]
  have:=hB rfl m (by simp[Op.operands])
  cases hx:evO tm m with
  |none=>rfl
  |some p =>
   cases evO tm k <;> first|rfl|skip
   try simp only
   rw[pi (this p hx)]
 case mapUpdate t m k x =>
  simp only[opC,hE m (by simp[Op.operands]),hE k (by simp[Op.operands]),hE x (by simp[Op.operands])]
  have:=hB rfl m (by simp[Op.operands])
  cases hx:evO tm m with
  |none=>rfl
  |some p =>
   cases evO tm k <;> first|rfl|skip
   cases evO tm x <;> first|rfl|skip
   try simp only
   rw[Lx (this p hx)]
 case insert t m k x =>
  simp only[opC,hE m (by simp[Op.operands]),hE k (by simp[Op.operands]),hE x (by simp[Op.operands])]
  have:=hB rfl m (by simp[Op.operands])
  cases hx:evO tm m with
  |none=>rfl
  |some p =>
   cases evO tm k <;> first|rfl|skip
   cases evO tm x <;> first|rfl|skip
   try simp only
   rw[Lx (this p hx)]
 case range t x=>simp only[opC,hE x (by simp[Op.operands])]
 case next x b =>
  cases b
  ·rfl
  simp only[opC,hE x (by simp[Op.operands])]
  have:=hB rfl x (by simp[Op.operands])
  cases hx:evO tm x with
  |none=>rfl
  | some p => try simp only
              rw[tj (this p hx)]
 case typeAssert x xt t ok =>
  cases ok
  ·rfl
  simp only[opC,hE x (by simp[Op.operands])]
 case extract x i=>simp only[opC,hE x (by simp[Op.operands])]
 case call c =>
  simp only[opC];cases hc:c.callee with
  |builtin b =>
   simp only;have hm:∀x∈c.args.toList,x∈(Op.call c).operands.toList:=fun x hx=>by simpa[Op.operands,Call.operands,hc]using hx
   rw[eH fun x hx t ht'=>ht t (Es.2 ⟨x,hm x hx,ht'⟩)]
   cases hvs:Ms tm c.args.toList with
   |none=>rfl
   |some vs =>
    simp only;rw[nc fun v hv id hid=>?_]
    obtain⟨x,hx,e⟩:=lF hvs v hv;exact hB rfl x (hm x hx) v e id hid
  |_=>rfl
end
mutual
def PV.closed:PV->Bool
 |.bool _=>true
 |.int _ _=>true
 |.str _=>true
 |.nilp=>true
 |.nilm=>true
 |.nilf=>true
 |.nili=>true
 |.sl _ es=>ad es
 |.ms _ _=>false
 |.mp _=>false
 |.im ks vs=>ad ks&&ad vs
 |.fn _ a b=>ad a&&ad b
 |.iface _ v=>v.closed
 |.agg cs=>ad cs
 |.tuple vs=>ad vs
 |.bp _ _=>false
 |.rp _ _ _ _=>false
 |.pf _ _ _=>false
 |.ip cs=>ad cs
 |.yl _=>false
def ad:List PV->Bool
 |[]=>true
 |v::vs=>v.closed&&ad vs
end
mutual
theorem av:∀(v:PV),v.closed=true->Lt 0 v
 |.bool _,_=>.bool
 |.int _ _,_=>.int
 |.str _,_=>.str
 |.nilp,_=>.nilp
 |.nilm,_=>.nilm
 |.nilf,_=>.nilf
 |.nili,_=>.nili
 |.sl _ es,h=>(lt_sl 0 _ es).2 (aB es h)
 |.ms _ _,h=>by cases h
 |.mp _,h=>by cases h
 |.im ks vs,h=>by
  have h':(ad ks&&ad vs)=true:=h;rw[D3]at h';exact .im (aB ks h'.1) (aB vs h'.2)
 |.fn _ a b,h=>by
  have h':(ad a&&ad b)=true:=h;rw[D3]at h';exact .fn (aB a h'.1) (aB b h'.2)
 |.iface _ v,h=>.iface (av v h)
 |.agg cs,h=>.agg (aB cs h)
 |.tuple vs,h=>.tuple (aB vs h)
 |.bp _ _,h=>by cases h
 |.rp _ _ _ _,h=>by cases h
 |.pf _ _ _,h=>by cases h
 |.ip cs,h=>.ip (aB cs h)
 |.yl _,h=>by cases h
theorem aB:∀(vs:List PV),ad vs=true->∀v∈vs,Lt 0 v
 |[],_,v,h=>by cases h
 |x::xs,h,v,hv=>by
  have h':(x.closed&&ad xs)=true:=h;rw[D3]at h';rcases D6.1 hv with e|hv
  ·rw[e];exact av x h'.1
  ·exact aB xs h'.2 v hv
end
def view1(sg:List Box)(v:PV):Option PV :=
 match v with
 |.ms id n=>match sg[id]? with
  |some (.row z _ _ es true)=>if es.length=n then some (.sl (if z then .n else .a) es)else none
  |_=>none
 |.mp id=>match sg[id]? with
  |some (.map ks vs true)=>some (.im ks vs)
  |_=>none
 |.pf _ _ _=>none
 |v=>some v
def iU{α β:Type}(f:α->Option β):List α->Option (List β)
 |[]=>some []
 |x::xs=>match f x,iU f xs with
  |some y,some ys=>some (y::ys)
  |_,_=>none
def dh(sg:List Box)(v:PV):Option PV :=
 match v with
 |.agg cs=>match iU (view1 sg) cs with
  |some cs'=>some (.agg cs')
  |none=>none
 |v=>view1 sg v
section
variable {P:Program} {T:TypeId->TyI} {G:Gh} {sg sg':List Box} {w:World}
theorem uq{id:Nat}{b:Box}(h:sg[id]?=some b):sg.set id b=sg:=by
 apply E6;intro j;by_cases hj:id=j
 ·subst hj
  rw[D4 (DR.1 h).1,h]
 ·rw[D8 hj]
theorem uI(hR:Rel G sg w){v v':PV}{u:Value}(hv:Rep G v u)(h:view1 sg v=some v'):∃G',Rel G' sg w∧G.le G'∧G'.dfr=G.dfr∧Rep G' v' u∧(v'.one=v.one∧v'.ag=v.ag):=by
 obtain⟨G',a,b,c,d,e,_⟩:=gp hR none hv;unfold view1 at h;split at h
 ·rename_i id n
  split at h <;> try (cases h;done)
  rename_i z e' k es hb;split at h <;> cases h
  rename_i hn;simp only[fC,hb,hn,Fy]at a d e;rw[uq hb]at a;exact⟨G',a,b,c,d,e⟩
 ·rename_i id
  split at h <;> cases h
  rename_i ks vs hb;simp only[fC,hb]at a d e;rw[uq hb]at a;exact⟨G',a,b,c,d,e⟩
 ·cases h
 ·cases h
  exact⟨G,hR,G.le_refl,rfl,hv,⟨rfl,rfl⟩⟩
theorem kw(f:PV->Option PV)(hf:∀{G:Gh} {v v':PV} {u:Value},Rel G sg w->Rep G v u->f v=some v'->∃G',Rel G' sg w∧G.le G'∧G'.dfr=G.dfr∧Rep G' v' u∧(v'.one=v.one∧v'.ag=v.ag)):
 ∀{G:Gh} {vs vs':List PV} {us:List Value},Rel G sg w->us.length=vs.length->(∀(j:Nat) (c:PV) (u:Value),vs[j]?=some c->us[j]?=some u->Rep G c u)->iU f vs=some vs' ->
  ∃G',Rel G' sg w∧G.le G'∧G'.dfr=G.dfr∧vs'.length=vs.length∧(∀(j:Nat) (c:PV) (u:Value),vs'[j]?=some c->us[j]?=some u->Rep G' c u)∧((∀c∈vs,c.one=true)->∀c∈vs',c.one=true)
 |G,[],vs',us,hR,_,_,h=>by
  cases h;exact⟨G,hR,G.le_refl,rfl,rfl,fun j c u h=>by simp at h,fun _ c h=>by cases h⟩
 |G,v::vs,vs',[],hR,hl,_,_=>by simp at hl
 |G,v::vs,vs',u::us,hR,hl,hr,h=>by
  unfold iU at h;split at h <;> cases h
  rename_i y ys h1 h2;obtain⟨G1,a1,a2,a3,a4,a5⟩:=hf hR (hr 0 v u rfl rfl) h1;obtain⟨G2,b1,b2,b3,b4,b5,b6⟩:=kw f hf (us:=us) a1 (by simpa using hl) (fun j c u hc hu=>(hr (j+1) c u (by simpa using hc) (by simpa using hu)).mono a2) h2
  refine⟨G2,b1,Gh.le_trans a2 b2,b3.trans a3,by simp[b4],fun j c x hc hx=>?_,fun h c hc=>?_⟩
  ·cases j with
   |zero=>simp at hc hx;subst hc;subst hx;exact a4.mono b2
   |succ j=>exact b5 j c x (by simpa using hc) (by simpa using hx)
  ·rcases D6.1 hc with rfl|hc
   ·rw[a5.1];exact h v (DV ..)
   ·exact b6 (fun c hc=>h c (DW _ hc)) c hc
theorem jh(hR:Rel G sg w){v v':PV}{u:Value}(hv:Rep G v u)(h:dh sg v=some v'):∃G',Rel G' sg w∧G.le G'∧G'.dfr=G.dfr∧Rep G' v' u∧(v'.one=v.one∧v'.ag=v.ag):=by
 unfold dh at h;split at h
 ·rename_i cs
  split at h <;> cases h
  rename_i cs' hcs;cases hv with
  |agg hl h1 hr =>
   rename_i us;obtain⟨G',a1,a2,a3,a4,a5,a6⟩:=kw (view1 sg) (fun hR hv h=>uI hR hv h) (us:=us.toList) hR (by simpa using hl) (fun j c u hc hu=>hr j c u hc (by simpa using hu)) hcs
   exact⟨G',a1,a2,a3,.agg (by simp[a4,hl]) (a6 h1) fun j c u hc hu=>a5 j c u hc (by simpa using hu),⟨rfl,rfl⟩⟩
 ·exact uI hR hv h
theorem zg{v:PV}(h:∀id∈v.id1,sg'[id]?=sg[id]?):view1 sg' v=view1 sg v:=by
 cases v <;> simp only[PV.id1,Ed,Fs,Eb]at h <;> simp only[view1,h]
theorem eE{f g:PV->Option PV}:∀{vs:List PV},(∀v∈vs,f v=g v)->iU f vs=iU g vs
 |[],_=>rfl
 |v::vs,h=>by
  unfold iU;rw[h v (DV ..),eE fun x hx=>h x (DW _ hx)]
theorem zB{v:PV}(h:∀id∈v.deep1,sg'[id]?=sg[id]?):dh sg' v=dh sg v:=by
 unfold dh;split
 ·rename_i cs
  rw[eE (f:=view1 sg') (g:=view1 sg) (vs:=cs) fun c hc=>zg fun id hid=>h id (Es.2 ⟨c,hc,hid⟩)]
 ·rename_i hna
  refine zg fun id hid=>h id (Es.2 ⟨v,?_,hid⟩)
  cases v <;> first|(exact absurd rfl (hna _))|simp[PV.cells]
end
abbrev Meth:=TypeId->String->Option FuncId
def cQ(P:Program)(me:Meth):Prop:=∀t name g v w,me t name=some g->(method (P.types.size+Made.depth) t v name).run P w=.ok (g,v) w
structure Ora where
 fn:FuncId->List PV->Option (PV×Option Box)
 me:Meth
 ow:Option (FuncId->Box->Option (PV×Box))
def OwOk(P:Program)(f:FuncId->Box->Option (PV×Box)):Prop:=∀g b v b',f g b=some (v,b')->bC P g∧∃z e k es,b=.row z e k es false∧∀(sg:List Box) (id:Nat),sg[id]?=some b->ab P g [.ms id es.length] sg (.ret v) (sg.set id b')
def Nk(P:Program)(ora:Ora):Prop:=(cQ P ora.me∧∀f,ora.ow=some f->OwOk P f)∧∀g args v,(ora.fn g args=some (v,none)->bC P g∧ab P g args [] (.ret v) []) ∧
 ∀b,ora.fn g args=some (v,some b)->bC P g∧∃e k es,b=.row false e k es false∧ad es=true∧ab P g args [] (.ret (.ms 0 es.length)) [b]
def mX:Op->Bool
 |.call c=>match c.callee with
  |.value _=>true
  |.invoke _ _=>true
  |.builtin .append=>true
  |_=>false
 |o=>rk o
theorem vY{o:Op}(h:rk o=true):mX o=true:=by
 cases o <;> try exact h
 rename_i c;have h':(match c.callee with|.builtin .append=>true|_=>false)=true:=h
 show(match c.callee with|.value _=>true|.invoke _ _=>true|.builtin .append=>true|_=>false)=true
 split at h'
 ·rename_i hc;rw[hc]
 ·cases h'
def Ly(me:Meth)(tm:List (Nat×PV)):Op->Option (FuncId×List PV)
 |.call c=>match c.callee with
  |.value fo=>match evO tm fo,Ms tm c.args.toList with
   |some (.fn (.func g) first cap),some vs=>some (g,first++(vs++cap))
   |_,_=>none
  |.invoke r name=>match evO tm r,Ms tm c.args.toList with
   |some (.iface t v),some vs=>if v.closed=true then(match me t name with
    |some g=>some (g,v::vs)
    |none=>none)else none
   |_,_=>none
  |_=>none
 |_=>none
def kz(sg:List Box)(v:PV):Option PV :=
 match v with
 |.ms id n=>match sg[id]? with
  |some (.row z _ _ es _)=>if es.length=n then some (.sl (if z then .n else .a) es)else none
  |_=>none
 |.pf id d n=>match sg[id]? with
  |some (.row z _ _ es _)=>if es.length=n then some (.sl (if z then .n else .a) (es.take d))else none
  |_=>none
 |v=>some v
def lf(sg:List Box)(v:PV):Option PV :=
 match v with
 |.agg cs=>match iU (kz sg) cs with
  |some cs'=>some (.agg cs')
  |none=>none
 |v=>kz sg v
def plain1:PV->Bool
 |.bool _=>true
 |.int _ _=>true
 |.str _=>true
 |.nilp=>true
 |.nilm=>true
 |.nilf=>true
 |.nili=>true
 |.sl _ []=>true
 |_=>false
def plainV:PV->Bool
 |.agg cs=>cs.all plain1
 |v=>plain1 v
def lb(sg:List Box):List PV->Option (Nat×Box)
 |[]=>none
 |.ms id n::r=>match sg[id]? with
  |some (.row z e k es false)=>if es.length=n then some (id,.row z e k es true)else lb sg r
  |_=>lb sg r
 |_::r=>lb sg r
def ml(ora:Ora)(sg:List Box)(fid:Nat)(g:FuncId)(all:List PV):Option (PV×Eff) :=
 match iU (lf sg) all with
 |some all'=>if ad all'=true then match ora.fn g all' with
  |some (v,none)=>if plainV v=true then some (v,none)else none
  |some (_,some b)=>match b with
   |.row false e k es false=>if(flat es).all plain1=true then some (.ms fid es.length,some (fid,.row false e k es false))else none
   |_=>none
  |none=>none
  else none
 |none=>none
def tF(ora:Ora)(sg:List Box)(g:FuncId)(all:List PV):Option (PV×Eff) :=
 match lb sg all with
 |some (id,b)=>match iU (dh (sg.set id b)) all with
  |some all'=>if ad all'=true then match ora.fn g all' with
   |some (v,none)=>some (v,some (id,b))
   |_=>none
   else none
  |none=>none
 |none=>none
def G6(ora:Ora)(sg:List Box)(g:FuncId)(all:List PV):Option (PV×Eff) :=
 match ora.ow with
 |none=>none
 |some f=>match all with
  |[.ms id n]=>match sg[id]? with
   |some (.row z e k es false)=>if es.length=n then(match f g (.row z e k es false)with
    |some (v,b)=>some (v,some (id,b))
    |none=>none)else none
   |_=>none
  |_=>none
def opD(ora:Ora)(T:TypeId->TyI)(tm:List (Nat×PV))(sg:List Box)(fid:Nat)(o:Op):Option (PV×Eff) :=
 match Ly ora.me tm o with
 |some (g,all)=>match iU (dh sg) all with
  |some all'=>if ad all'=true then match ora.fn g all' with
   |some (v,none)=>some (v,none)
   |some (_,some b)=>match b with
    |.row false e k es false=>some (.ms fid es.length,some (fid,.row false e k es false))
    |_=>none
   |none=>none
   else none
  |none=>match ml ora sg fid g all with
   |some r=>some r
   |none=>match tF ora sg g all with
    |some r=>some r
    |none=>G6 ora sg g all
 |none=>opC T tm sg fid o
section
variable {P:Program} {T:TypeId->TyI} {ora:Ora} {st:St}
theorem jr{me:Meth}{tm:List (Nat×PV)}{o:Op}{g:FuncId}{all:List PV}(h:Ly me tm o=some (g,all)):∃c,o=.call c:=by
 unfold Ly at h;split at h <;> try (cases h;done)
 exact⟨_,rfl⟩
theorem qY{me:Meth}{tm:List (Nat×PV)}{o:Op}{g:FuncId}{all:List PV}(h:Ly me tm o=some (g,all)):mX o=true:=by
 unfold Ly at h;split at h <;> try (cases h;done)
 split at h <;> try (cases h;done)
 all_goals
  rename_i hc;simp[mX,hc]
theorem ia{G:Gh}{me:Meth}(hme:cQ P me){tm:List (Nat×PV)}{o:Oper}{g:FuncId}{all:List PV}(h:Ly me tm o.op=some (g,all))(he:bC P g){a:Act}(hT:RepT G tm a.tmps)(w:World):
 ∃us,(execOp a.eval o).run P w=.ok (.enter g us) w∧RepL G all us:=by
 unfold Ly at h;split at h <;> try (cases h;done)
 rename_i c ho;split at h <;> try (cases h;done)
 ·rename_i fo hc
  split at h <;> cases h
  exact AF hT hc (by assumption) (by assumption) he o ho
 ·rename_i rcv name hc
  split at h <;> try (cases h;done)
  rename_i t v vs h1 h2;split at h <;> try (cases h;done)
  split at h <;> cases h
  rename_i hg;have hr:=aH hT h1;have hL:=eO hT h2;generalize hu:a.eval rcv=u at hr;cases hr with
  |iface hv =>
   rename_i u';refine⟨#[u']++c.args.map a.eval,?_,?_⟩
   ·have hm:=hme t name g u' w hg
    have h0:(#[Value.iface t u']++Array.map a.eval c.args)[0]?=some (Value.iface t u'):=by
     rw[ES (by simp)];rfl
    have hx:(Array.map a.eval c.args).extract 0 c.args.size=Array.map a.eval c.args:=by
     have:=Array.extract_size (xs:=Array.map a.eval c.args)
     simpa using this
    simp[execOp,ho,resolve,hc,hu,invoke,h0,callMethod,hm,hx,he _ w]
   ·refine⟨by simp[hL.1];omega,fun j x y hx hy=>?_⟩
    cases j with
    |zero =>
     rw[ES (by simp)]at hy
     simp at hx hy;subst hx;subst hy;exact hv
    |succ j =>
     refine hL.2 j x y (by simpa using hx) ?_
     rw[OM (by simp)]at hy
     simpa using hy
theorem ab.frameRow{f:FuncId}{args:List PV}{e:TypeId}{kk:Nat}{es:List PV}(h:ab P f args [] (.ret (.ms 0 es.length)) [.row false e kk es false])(hlt:∀x∈args,Lt 0 x)(hcl:∀x∈es,Lt 0 x)
 {n:Nat} {G:Gh} {sg:List Box} {w:World} {us:Array Value} (hR:Rel G sg w) (hL:RepL G args us) {fid:Nat} (hfree:jT sg fid) :
 CallsIn Fence.wide n P f us w fun x w'=>∃G' u,x=.returned u∧Rel G' (sg.set fid (.row false e kk es false)) w'∧G.le G'∧G'.dfr=G.dfr∧Rep G' (.ms fid es.length) u:=by
 let G0:Gh:={ w0:=w,S:=G.S,SM:=G.SM,rho:=[],dfr:=[] }
 have hR0:Rel G0 [] w:=⟨Below.refl _ w,rfl,fun id s b hs=>by simp[G0]at hs,fun i j s s' g _ hs=>by simp[G0]at hs,hR.st,hR.stM,(fun b hb=>by cases hb),hR.tab.mono hR.below⟩
 have hL0:RepL G0 args us:=⟨hL.1,fun j c u hc hu=>Rep.lower (G:=G) (G':=G0) (m:=0) (fun _ _ _ e=>e) (fun _ _ e=>e) (fun id h=>by omega) (hL.2 j c u hc hu) (hlt c (DU hc))⟩
 refine CallsIn.mono (h.2 n G0 w us hR0 hL0) fun x w' ⟨G0',hR0',hl0,hdf0,hm⟩=>?_
 cases x with
 |panicked ch=>exact hm.elim
 |outgrown=>exact hm.elim
 |returned u =>
 have hm':Rep G0' (.ms 0 es.length) u:=hm;have hw0:G0'.w0=w:=hl0.w0;have hbel:Below w.heap.size w w':=by have:=hR0'.below;rw[hw0]at this;exact this
 obtain⟨s0,hs0,hok0⟩:=hR0'.slot (id:=0) (b:=.row false e kk es false) rfl;cases s0 with
 |dead=>exact hok0.elim
 |blk g=>exact hok0.elim
 |lp g d=>exact hok0.elim
 |row v m k =>
 obtain⟨rfl,rfl,hz,hk,h1,⟨xs,how,hLx⟩,hS⟩:=hok0;obtain⟨g,cap,cur,rfl,hB,hh,_⟩:=cG how (by intro e;rw[e]at hz;simp at hz)
 rw[hw0]at how hB;obtain⟨sd,hsd,hbd⟩:=hR.slot hfree;have hsd':sd=.dead:=by cases sd <;> simp[BoxOk]at hbd <;> rfl
 subst hsd';have hfid:fid<G.rho.length:=(DR.1 hsd).1
 let G':Gh:={ w0:=G.w0,S:=G0'.S,SM:=G0'.SM,rho:=G.rho.set fid (.row (.slice (some ⟨g,0,none⟩) es.length cap) es.length kk),dfr:=G.dfr }
 have hle:G.le G':=⟨rfl,hl0.S,hl0.SM,fun g o hg=>hl0.old g o (Fj hg hR.base_le),fun g hg=>hl0.oldM g (Fj hg hR.base_le),fun id s hs=>by
  by_cases hid:fid=id
  ·subst hid
   rw[hsd]at hs;cases hs;exact⟨_,by show(G.rho.set fid _)[fid]?=_;rw[D4 hfid],trivial⟩
  ·exact⟨s,by show(G.rho.set fid _)[id]?=_;rw[D8 hid];exact hs,s.le_refl⟩⟩
 have hRk:=hR.keep hbel;have hrow:G'.rho[fid]?=some (.row (.slice (some ⟨g,0,none⟩) es.length cap) es.length kk):=by show(G.rho.set fid _)[fid]?=_;rw[D4 hfid]
 have hcl':∀c∈flat es,Lt 0 c:=fun c hc=>by
  obtain⟨y,hy,hyc⟩:=dq.1 hc;exact jB 0 y (hcl y hy) c hyc
 refine⟨G',u,rfl,⟨hRk.below,by show(G.rho.set fid _).length=_;simp[hR.len],fun id s b hs hb=>?_,fun i j s s' gg hij hs hs' hgb hgb'=>?_,hR0'.st,hR0'.stM,hRk.dfr,hR.tab⟩,hle,rfl,?_⟩
 ·by_cases hid:fid=id
  ·subst hid
   rw[hrow]at hs;cases hs;rw[D4 (by rw[←hR.len];exact hfid)]at hb
   cases hb;refine⟨rfl,rfl,hz,hk,h1,⟨xs,kR how hR.base_le,⟨hLx.1,fun j c y hc hy=>?_⟩⟩,hS⟩
   exact Rep.lower (G:=G0') (G':=G') (m:=0) (fun _ _ _ e=>e) (fun _ _ e=>e) (fun id h=>by omega) (hLx.2 j c y hc hy) (hcl' c (DU hc))
  ·have hs':G.rho[id]?=some s:=by
    have:(G.rho.set fid _)[id]?=some s:=hs
    rw[D8 hid]at this;exact this
   rw[D8 hid]at hb;have hb0:=hR.box id s b hs' hb;exact(hRk.box id s b hs' hb).keep (DS _) (fun _ _ r=>r.mono hle) rfl (fun _ _=>rfl) (fun g hg o e=>by
    have:=hl0.old g o (hb0.blk hg).2
    show G0'.S g o=none;rw[this];exact e) (fun g hg e=>by
    have:=hl0.oldM g (hb0.blk hg).2
    show G0'.SM g=none;rw[this];exact e) (fun _ e=>e)
 ·have old:∀(id:Nat) (s:Slot),fid≠id->(G.rho.set fid (.row (.slice (some ⟨g,0,none⟩) es.length cap) es.length kk))[id]?=some s->G.rho[id]?=some s:=fun id s hid hs=>by
   rw[D8 hid]at hs;exact hs
  have new:∀(s:Slot),(G.rho.set fid (.row (.slice (some ⟨g,0,none⟩) es.length cap) es.length kk))[fid]?=some s->s.block=some g:=fun s hs=>by
   rw[D4 hfid]at hs;cases hs;rfl
  have lim:∀(id:Nat) (s:Slot) (q:Nat),G.rho[id]?=some s->s.block=some q->q<w.heap.size:=fun id s q hs hq=>by
   obtain⟨b,_,hbk⟩:=hR.slotBox hs;exact(hbk.blk hq).2
  by_cases hi:fid=i
  ·subst hi
   have e1:=new s hs;rw[hgb]at e1;cases e1;have:=lim j s' g (old j s' hij hs') hgb'
   omega
  ·by_cases hj:fid=j
   ·subst hj
    have e1:=new s' hs';rw[hgb']at e1;cases e1;have:=lim i s g (old i s hi hs) hgb
    omega
   ·exact hR.inj i j s s' gg hij (old i s hi hs) (old j s' hj hs') hgb hgb'
 ·cases hm' with
  |ms hs hn ho hu =>
   rw[hs0]at hs;cases hs;exact .ms hrow (DS _) ho hu
theorem Rep.plain1{G G':Gh}{v:PV}{u:Value}(hp:Pv.plain1 v=true)(h:Rep G v u):Rep G' v u:=by
 cases h with
 |bool=>exact .bool
 |int h=>exact .int h
 |str h=>exact .str h
 |nilp=>exact .nilp
 |nilm=>exact .nilm
 |nilf=>exact .nilf
 |nili=>exact .nili
 |nils=>exact .nils
 |@sl z es _ _ _ _ hz hf k us hk h1 hc hm hS hr hsp =>
  cases es with
  |nil=>exact .sl hz hf k us hk h1 hc hm (fun j c h=>by simp[flat]at h) (fun j c h=>by simp[flat]at h) hsp
  |cons x es=>cases hp
 |_=>cases hp
theorem Rep.plainV{G G':Gh}{v:PV}{u:Value}(hp:Pv.plainV v=true)(h:Rep G v u):Rep G' v u:=by
 unfold Pv.plainV at hp;split at hp
 ·rename_i cs
  cases h with
  |agg hl h1 hr=>exact .agg hl h1 fun j c u hc hu=>(hr j c u hc hu).plain1 (D7.1 hp c (DU hc))
 ·exact h.plain1 hp
def fQ(w:World):Gh:={ w0:=w,S:=fun g o=>w.cell? ⟨g,o,none⟩,SM:=fun g=>match w.heap[g]? with|some (.map es c)=>some (es,c)|_=>none,rho:=[],dfr:=[] }
theorem jK{G:Gh}{sg:List Box}{w:World}(hR:Rel G sg w):Rel (fQ w) [] w :=
 ⟨Below.refl _ w,rfl,fun id s b hs=>by simp[fQ]at hs,fun i j s s' g _ hs=>by simp[fQ]at hs,fun _ _ _ h=>h,fun g es c h=>by
  unfold fQ at h;dsimp only at h;split at h <;> cases h
  assumption,(fun b hb=>by cases hb),hR.tab.mono hR.below⟩
theorem Rep.snap{G:Gh}{sg:List Box}{w:World}(hR:Rel G sg w){v:PV}{u:Value}(h:Rep G v u)(hl:Lt 0 v):Rep (fQ w) v u :=
 Rep.lower (G:=G) (G':=fQ w) (m:=0) (fun g o v e=>hR.st g o v e) (fun g v e=>by
  show(match w.heap[g]? with|some (.map es c)=>some (es,c)|_=>none)=some v
  rw[hR.stM g v.1 v.2 e]) (fun id h=>by omega) h hl
theorem ut{G:Gh}{sg:List Box}{w:World}(hR:Rel G sg w){g cap d m k B:Nat}{e:TypeId}{es:List PV}{us:List Value}(how:w.ownsRow B e k (.slice (some ⟨g,0,none⟩) m cap) m us)(hm:es.length=m)(hk:∀x∈es,x.cells.length=k)
 (h1:∀c∈flat es,c.one=true) (hL:RepL G (flat es) us.toArray) (hd:d<=m) (hcl:ad (es.take d)=true):Rep (fQ w) (.sl .a (es.take d)) (.slice (some ⟨g,0,none⟩) d cap):=by
 have hlen:(es.take d).length=d:=by simp;omega
 obtain⟨g',cap',cur,hv,hB,hh,hnc,hcm,hcs,ht⟩:=cG how (by intro e;cases e)
 simp only[Value.slice.injEq,Option.some.injEq,Addr.mk.injEq,IV]at hv;obtain⟨⟨rfl⟩,_,rfl⟩:=hv;have hfl:=gV es hk d;have key:Rep (fQ w) (.sl .a (es.take d)) (.slice (some ⟨g,0,none⟩) (es.take d).length cap):=by
  refine Rep.sl (z:=.a) (by simp) (by simp) k (fun j=>us.getD j default) (fun x hx=>hk x (Ey hx)) (fun c hc=>h1 c ?_) (by omega) hcm (fun j c hj=>?_) (fun j c hj=>?_) (fun _=>rfl)
  ·rw[hfl]at hc;exact Ey hc
  ·rw[hfl,El]at hj
   split at hj <;> try (cases hj;done)
   have hjl:j<us.length:=by
    have:=(DR.1 hj).1
    have:=hL.1
    simp at this;omega
   show w.cell? ⟨g,0+j,none⟩=_;have:=how.cells (g:=g) rfl j us[j] (DT hjl)
   rw[gy]at this;rw[this];simp[List.getD,DT hjl]
  ·have hj0:=hj
   rw[hfl,El]at hj;split at hj <;> try (cases hj;done)
   have hjl:j<us.length:=by
    have:=(DR.1 hj).1
    have:=hL.1
    simp at this;omega
   have hr:=hL.2 j c us[j] hj (by simp[DT hjl])
   have e2:us.getD j default=us[j]:=by simp[List.getD,DT hjl]
   rw[e2];refine hr.snap hR ?_;obtain⟨y,hy,hyc⟩:=dq.1 (DU hj0);exact jB 0 y (aB _ hcl y hy) c hyc
 rw[hlen]at key;exact key
theorem uP{G:Gh}{sg:List Box}{w:World}(hR:Rel G sg w){v v':PV}{u:Value}(hv:Rep G v u)(h:kz sg v=some v')(hcl:v'.closed=true):Rep (fQ w) v' u:=by
 unfold kz at h;split at h
 ·rename_i id n
  split at h <;> try (cases h;done)
  rename_i z e k es frz hb;split at h <;> cases h
  rename_i hn;cases hv with
  |ms hs hle ho hu =>
   obtain⟨rfl,rfl,hz,hk,h1,⟨us,how,hL⟩,hS⟩:=hR.box id _ _ hs hb;obtain rfl:=hu hn.symm;rcases how.2 with ⟨rfl,h0⟩|⟨g,cap,cur,rfl,_⟩
   ·obtain rfl:z=true:=hz.2 rfl
    obtain rfl:es=[]:=EB h0;exact .nils
   ·have hz':z=false:=by
     cases z
     ·rfl
     ·have:=hz.1 rfl;cases this
    subst hz';have:=ut hR (d:=es.length) how rfl hk h1 hL (DS _) (by rw[Eg];exact hcl)
    rw[Eg]at this;exact this
 ·rename_i id d n
  split at h <;> try (cases h;done)
  rename_i z e k es frz hb;split at h <;> cases h
  rename_i hn;obtain⟨hdm,v,us,hs,rfl,hz,hk,h1,how,hL,hS⟩:=gh hR hv hb hn;rcases how.2 with ⟨rfl,h0⟩|⟨g,cap,cur,rfl,_⟩
  ·obtain rfl:z=true:=hz.2 rfl
   obtain rfl:d=0:=by omega
   exact .nils
  ·have hz':z=false:=by
    cases z
    ·rfl
    ·have:=hz.1 rfl;cases this
   subst hz';exact ut hR how hn hk h1 hL hdm hcl
 ·cases h
  exact hv.snap hR (av _ hcl)
theorem xI{sg:List Box}{v v':PV}(h:kz sg v=some v')(h1:v.one=true):v'.one=true:=by
 unfold kz at h;split at h
 ·split at h <;> try (cases h;done)
  split at h <;> cases h
  rfl
 ·split at h <;> try (cases h;done)
  split at h <;> cases h
  rfl
 ·cases h
  exact h1
theorem oB{G:Gh}{sg:List Box}{w:World}(hR:Rel G sg w):∀{all all':List PV} {us:List Value},us.length=all.length->(∀(j:Nat) (c:PV) (u:Value),all[j]?=some c->us[j]?=some u->Rep G c u)->iU (kz sg) all=some all'->ad all'=true->(∀c∈all,c.one=true) ->
 us.length=all'.length∧(∀(j:Nat) (c:PV) (u:Value),all'[j]?=some c->us[j]?=some u->Rep (fQ w) c u)∧∀c∈all',c.one=true
 |[],all',us,hl,_,h,_,_=>by cases h;exact⟨hl,fun j c u hc=>by simp at hc,fun c hc=>by cases hc⟩
 |x::xs,all',us,hl,hr,h,hcl,h1=>by
  unfold iU at h;split at h <;> cases h
  rename_i y ys h2 h3;have hcl':(y.closed&&ad ys)=true:=hcl;rw[D3]at hcl';cases us with
  |nil=>simp at hl
  |cons u us =>
   obtain⟨i1,i2,i3⟩:=oB hR (us:=us) (by simpa using hl) (fun j c u hc hu=>hr (j+1) c u (by simpa using hc) (by simpa using hu)) h3 hcl'.2 (fun c hc=>h1 c (DW _ hc))
   refine⟨by simp[i1],fun j c u' hc hu=>?_,fun c hc=>?_⟩
   ·cases j with
    |zero=>simp at hc hu;subst hc;subst hu;exact uP hR (hr 0 x u rfl rfl) h2 hcl'.1
    |succ j=>exact i2 j c u' (by simpa using hc) (by simpa using hu)
   ·rcases D6.1 hc with rfl|hc
    ·exact xI h2 (h1 x (DV ..))
    ·exact i3 c hc
theorem snapV_ok{G:Gh}{sg:List Box}{w:World}(hR:Rel G sg w){v v':PV}{u:Value}(hv:Rep G v u)(h:lf sg v=some v')(hcl:v'.closed=true):Rep (fQ w) v' u:=by
 unfold lf at h;split at h
 ·rename_i cs
  split at h <;> cases h
  rename_i cs' hcs;cases hv with
  |agg hl h1 hr =>
   rename_i us;obtain⟨a1,a2,a3⟩:=oB hR (us:=us.toList) (by simpa using hl) (fun j c u hc hu=>hr j c u hc (by simpa using hu)) hcs hcl h1
   exact .agg (by simpa using a1) a3 fun j c u hc hu=>a2 j c u hc (by simpa using hu)
 ·exact uP hR hv h hcl
theorem jw{G:Gh}{sg:List Box}{w:World}(hR:Rel G sg w):∀{all all':List PV} {us:List Value},us.length=all.length->(∀(j:Nat) (c:PV) (u:Value),all[j]?=some c->us[j]?=some u->Rep G c u)->iU (lf sg) all=some all'->ad all'=true ->
 us.length=all'.length∧∀(j:Nat) (c:PV) (u:Value),all'[j]?=some c->us[j]?=some u->Rep (fQ w) c u
 |[],all',us,hl,_,h,_=>by cases h;exact⟨hl,fun j c u hc=>by simp at hc⟩
 |x::xs,all',us,hl,hr,h,hcl=>by
  unfold iU at h;split at h <;> cases h
  rename_i y ys h1 h2;have hcl':(y.closed&&ad ys)=true:=hcl;rw[D3]at hcl';cases us with
  |nil=>simp at hl
  |cons u us =>
   obtain⟨i1,i2⟩:=jw hR (us:=us) (by simpa using hl) (fun j c u hc hu=>hr (j+1) c u (by simpa using hc) (by simpa using hu)) h2 hcl'.2
   refine⟨by simp[i1],fun j c u' hc hu=>?_⟩
   cases j with
   |zero=>simp at hc hu;subst hc;subst hu;exact snapV_ok hR (hr 0 x u rfl rfl) h1 hcl'.1
   |succ j=>exact i2 j c u' (by simpa using hc) (by simpa using hu)
theorem dE.atSnap(hora:Nk P ora){o:Oper}(hd:∀d,o.dst=some d->d<st.n){fid:Nat}(hfree:mX o.op=true->jT st.sg fid){v:PV}{ef:Eff}{g:FuncId}{all:List PV}(hc:Ly ora.me st.tm o.op=some (g,all))
 (h:ml ora st.sg fid g all=some (v,ef)):dE P o st .normal { tm:=putD st.tm o.dst v,n:=st.n,sg:=Lm st.sg ef }:=by
 unfold ml at h;split at h <;> try (cases h;done)
 rename_i all' hv;split at h <;> try (cases h;done)
 rename_i hcl;split at h <;> try (cases h;done)
 ·rename_i v' hor
  split at h <;> cases h
  rename_i hp;obtain⟨hent,hcall⟩:=(hora.2 _ _ _).1 hor;obtain⟨c,ho⟩:=jr hc;refine⟨DS _,fun r n G a w db next Q hs k=>⟨fun f _=>trivial,?_⟩⟩
  obtain⟨us,hrun,hL⟩:=ia (P:=P) hora.1.1 hc hent hs.tm w;have hsem:o.semAt (FW r).round a.eval=execOp a.eval o:=Oper.semAt_eq _ _ _ (fun c' e=>by rw[ho]at e;cases e)
  obtain⟨l1,l2⟩:=jw hs.rel (us:=us.toList) (by simpa using hL.1) (fun j c u hc hu=>hL.2 j c u hc (by simpa using hu)) hv hcl
  have hL1:RepL (fQ w) all' us:=⟨by simpa using l1,fun j c u hc hu=>l2 j c u hc (by simpa using hu)⟩
  rw[hsem,hrun,Oper.uponIn_enter];refine⟨fun h=>(by cases h),cv r (CallsIn.mono (hcall.2 _ (fQ w) w us (jK hs.rel) hL1) fun e w' ⟨G',hR',hl,hdf,hm⟩=>?_)⟩
  cases e with
  |panicked ch=>exact hm.elim
  |outgrown=>exact hm.elim
  |returned u =>
   have hm':Rep G' v u:=hm;have hw0:G'.w0=w:=hl.w0;have hbel:Below w.heap.size w w':=by have:=hR'.below;rw[hw0]at this;exact this
   have hRk:=hs.rel.keep hbel;have hlM:=bK st.sg.length G;have hS:RelS G { tm:=putD st.tm o.dst v,n:=st.n,sg:=st.sg } (a.put o.dst u) w' r db:=by
    refine⟨hRk,RepT.putD hs.tm (fun d e=>hs.n▸hd d e) (hm'.plainV hp),(cD a o.dst u).trans hs.n,?_,hs.rd⟩
    obtain⟨own,h1,h2⟩:=hs.dfr;exact⟨own,by rw[bO];exact h1,h2⟩
   rcases k .normal (a.put o.dst u) w' G trivial hS hlM with ⟨_,hn⟩|⟨hn,_⟩
   ·exact hn
   ·exact absurd rfl hn
 ·rename_i v0 b hor
  split at h <;> try (cases h;done)
  rename_i e kk es;split at h <;> cases h
  rename_i hp;obtain⟨hent,e',k',es',hb,hcles,hcall⟩:=(hora.2 _ _ _).2 _ hor;cases hb;obtain⟨c,ho⟩:=jr hc;have hfr:jT st.sg fid:=hfree (qY hc);refine⟨by show _<=(st.sg.set fid _).length;simp,fun r n G a w db next Q hs k=>⟨fun f _=>trivial,?_⟩⟩
  obtain⟨us,hrun,hL⟩:=ia (P:=P) hora.1.1 hc hent hs.tm w;have hsem:o.semAt (FW r).round a.eval=execOp a.eval o:=Oper.semAt_eq _ _ _ (fun c' e=>by rw[ho]at e;cases e)
  obtain⟨l1,l2⟩:=jw hs.rel (us:=us.toList) (by simpa using hL.1) (fun j c u hc hu=>hL.2 j c u hc (by simpa using hu)) hv hcl
  have hL1:RepL (fQ w) all' us:=⟨by simpa using l1,fun j c u hc hu=>l2 j c u hc (by simpa using hu)⟩
  rw[hsem,hrun,Oper.uponIn_enter];refine⟨fun h=>(by cases h),cv r (CallsIn.mono (hcall.2 _ (fQ w) w us (jK hs.rel) hL1) fun x w' ⟨G0',hR0',hl0,hdf0,hm⟩=>?_)⟩
  cases x with
  |panicked ch=>exact hm.elim
  |outgrown=>exact hm.elim
  |returned u =>
  have hm':Rep G0' (.ms 0 es.length) u:=hm;have hw0:G0'.w0=w:=hl0.w0;have hbel:Below w.heap.size w w':=by have:=hR0'.below;rw[hw0]at this;exact this
  obtain⟨s0,hs0,hok0⟩:=hR0'.slot (id:=0) (b:=.row false e kk es false) rfl;cases s0 with
  |dead=>exact hok0.elim
  |blk g=>exact hok0.elim
  |lp g d=>exact hok0.elim
  |row vr m k' =>
  obtain⟨rfl,rfl,hz,hk,h1',⟨xs,how,hLx⟩,hS⟩:=hok0;obtain⟨g,cap,cur,rfl,hB,hh,_⟩:=cG how (by intro e;rw[e]at hz;simp at hz)
  rw[hw0]at how hB;cases hm' with
  |ms hs1 hn ho1 hu =>
  rw[hs0]at hs1;cases hs1;obtain rfl:=hu rfl;have hLp:RepL G (flat es) xs.toArray:=⟨hLx.1,fun j c y hc hy=>(hLx.2 j c y hc hy).plain1 (D7.1 hp c (DU hc))⟩
  obtain⟨G',a1,a2,a3,a4⟩:=new_row hs.rel hfr hbel hB rfl how hk h1' hLp;have hlM:=a2.leM st.sg.length;have hS:RelS G' { tm:=putD st.tm o.dst (.ms fid es.length),n:=st.n,sg:=st.sg.set fid (.row false e kk es false) } (a.put o.dst (.slice (some ⟨g,0,none⟩) es.length cap)) w' r db:=by
   refine⟨a1,RepT.putD (fun t x e=>?_) (fun d e=>hs.n▸hd d e) a4,(cD a o.dst _).trans hs.n,?_,fun l hl0=>?_⟩
   ·obtain⟨y,hy,hr⟩:=hs.tm t x e
    exact⟨y,hy,hr.mono a2⟩
   ·obtain⟨own,h1,h2⟩:=hs.dfr
    exact⟨own,by rw[bO];exact h1,by rw[a3];exact h2.1,h2.2⟩
   ·obtain⟨id,d,lr,h1,h2⟩:=hs.rd l hl0
    have hne:fid≠id:=fun e=>by subst e;unfold jT at hfr;rw[hfr]at h2;cases h2
    obtain⟨lr',h3,h4⟩:=cj (lr:=lr) a1 hlM (DR.1 h2).1 h1 (fun hg=>by rw[D8 hne,h2]at hg;cases hg)
    exact⟨id,d,lr',h3,h4⟩
  rcases k .normal (a.put o.dst (.slice (some ⟨g,0,none⟩) es.length cap)) w' G' trivial hS hlM with ⟨_,hn⟩|⟨hn,_⟩
  ·exact hn
  ·exact absurd rfl hn
theorem pc{sg:List Box}{id:Nat}{b:Box}:∀{all:List PV},lb sg all=some (id,b)->∃n z e k es,PV.ms id n∈all∧sg[id]?=some (.row z e k es false)∧es.length=n∧b=.row z e k es true
 |[],h=>by cases h
 |x::r,h=>by
  have rcs:lb sg r=some (id,b)->∃n z e k es,PV.ms id n∈x::r∧sg[id]?=some (.row z e k es false)∧es.length=n∧b=.row z e k es true:=fun h=>by
   obtain⟨n,z,e,k,es,h1,h2⟩:=pc h;exact⟨n,z,e,k,es,DW _ h1,h2⟩
  cases x <;> try exact rcs h
  rename_i id' n;unfold lb at h;split at h
  ·rename_i z e k es hb
   split at h
   ·rename_i hn
    cases h;exact⟨n,z,e,k,es,DV,hb,hn,rfl⟩
   ·exact rcs h
  ·exact rcs h
theorem dE.atFrz(hora:Nk P ora){o:Oper}(hd:∀d,o.dst=some d->d<st.n){v:PV}{ef:Eff}{g:FuncId}{all:List PV}(hc:Ly ora.me st.tm o.op=some (g,all))
 (h:tF ora st.sg g all=some (v,ef)):dE P o st .normal { tm:=putD st.tm o.dst v,n:=st.n,sg:=Lm st.sg ef }:=by
 unfold tF at h;split at h <;> try (cases h;done)
 rename_i id b hid;split at h <;> try (cases h;done)
 rename_i all' hv;split at h <;> try (cases h;done)
 rename_i hcl;split at h <;> cases h
 rename_i hor;obtain⟨hent,hcall⟩:=(hora.2 _ _ _).1 hor;obtain⟨c,ho⟩:=jr hc;obtain⟨m,z,e,kk,es,hmem,hb,hm0,rfl⟩:=pc hid;refine⟨by show _<=(st.sg.set id _).length;simp,fun r n G a w db next Q hs k=>⟨fun f _=>trivial,?_⟩⟩
 obtain⟨us,hrun,hL⟩:=ia (P:=P) hora.1.1 hc hent hs.tm w;have hsem:o.semAt (FW r).round a.eval=execOp a.eval o:=Oper.semAt_eq _ _ _ (fun c' e=>by rw[ho]at e;cases e)
 obtain⟨j,hj⟩:=FT hmem;obtain⟨u0,hu0⟩:∃u0,us[j]?=some u0:=⟨_,ED (by have:=(DR.1 hj).1;have:=hL.1;omega)⟩
 obtain⟨G0,f1,f2,f3,_⟩:=gp hs.rel none (hL.2 j _ u0 hj hu0);have f1:Rel G0 (fC none st.sg (.ms id m)).2 w:=f1;have ef:fC none st.sg (.ms id m)=(.sl (if z then .n else .a) es,st.sg.set id (.row z e kk es true)):=by
  unfold fC;simp[hb,hm0]
 rw[ef]at f1;obtain⟨G1,a1,a2,a3,a4,a5,_⟩:=kw (dh (st.sg.set id (.row z e kk es true))) (fun hR hv h=>jh hR hv h) (us:=us.toList) f1 (by simpa using hL.1) (fun j c u hc hu=>(hL.2 j c u hc (by simpa using hu)).mono f2) hv
 have hL1:RepL G1 all' us:=⟨by rw[a4];exact hL.1,fun j c u hc hu=>a5 j c u hc (by simpa using hu)⟩
 rw[hsem,hrun,Oper.uponIn_enter];refine⟨fun h=>(by cases h),cv r (CallsIn.mono (((hcall.frame (aB _ hcl)) (st.sg.set id (.row z e kk es true))).2 _ G1 w us a1 hL1) fun x w' ⟨G',hR',hl,hdf,hm⟩=>?_)⟩
 cases x with
 |panicked ch=>exact hm.elim
 |outgrown=>exact hm.elim
 |returned u =>
  rw[Fr]at hl;have hlM:=((Gh.le_trans f2 a2).leM st.sg.length).trans hl (DS _);have hS:RelS G' { tm:=putD st.tm o.dst v,n:=st.n,sg:=st.sg.set id (.row z e kk es true) } (a.put o.dst u) w' r db:=by
   refine⟨hR',RepT.putD (fun t x e=>?_) (fun d e=>hs.n▸hd d e) hm,(cD a o.dst u).trans hs.n,?_,fun l hl0=>?_⟩
   ·obtain⟨y,hy,hr⟩:=hs.tm t x e
    exact⟨y,hy,hr.monoM hlM (hs.rel.len▸hr.lt)⟩
   ·obtain⟨own,h1,h2⟩:=hs.dfr
    exact⟨own,by rw[bO];exact h1,by rw[hdf,a3,f3];exact h2.1,h2.2⟩
   ·obtain⟨id2,d,lr,h1,h2⟩:=hs.rd l hl0
    have hne:id≠id2:=fun e=>by subst e;rw[hb]at h2;cases h2
    obtain⟨lr',h3,h4⟩:=cj (lr:=lr) hR' hlM (DR.1 h2).1 h1 (fun hg=>by rw[D8 hne,h2]at hg;cases hg)
    exact⟨id2,d,lr',h3,h4⟩
  rcases k .normal (a.put o.dst u) w' G' trivial hS hlM with ⟨_,hn⟩|⟨hn,_⟩
  ·exact hn
  ·exact absurd rfl hn
theorem dE.atOwn(hora:Nk P ora){o:Oper}(hd:∀d,o.dst=some d->d<st.n){v:PV}{ef:Eff}{g:FuncId}{all:List PV}(hc:Ly ora.me st.tm o.op=some (g,all))
 (h:G6 ora st.sg g all=some (v,ef)):dE P o st .normal { tm:=putD st.tm o.dst v,n:=st.n,sg:=Lm st.sg ef }:=by
 unfold G6 at h;split at h <;> try (cases h;done)
 rename_i f how;split at h <;> try (cases h;done)
 rename_i id n;split at h <;> try (cases h;done)
 rename_i z e kk es hb;split at h <;> try (cases h;done)
 rename_i hn;split at h <;> cases h
 rename_i b hf;subst hn;obtain⟨hent,z',e',k',es',heq,hcall⟩:=hora.1.2 f how _ _ _ _ hf;cases heq;have hcall:=hcall st.sg id hb;obtain⟨c,ho⟩:=jr hc;refine⟨by show _<=(st.sg.set id _).length;simp,fun r n G a w db next Q hs k=>⟨fun f _=>trivial,?_⟩⟩
 obtain⟨us,hrun,hL⟩:=ia (P:=P) hora.1.1 hc hent hs.tm w;have hsem:o.semAt (FW r).round a.eval=execOp a.eval o:=Oper.semAt_eq _ _ _ (fun c' e=>by rw[ho]at e;cases e)
 rw[hsem,hrun,Oper.uponIn_enter];refine⟨fun h=>(by cases h),cv r (CallsIn.mono (hcall.2 _ G w us hs.rel hL) fun x w' ⟨G',hR',hl,hdf,hm⟩=>?_)⟩
 cases x with
 |panicked ch=>exact hm.elim
 |outgrown=>exact hm.elim
 |returned u =>
  have hS:RelS G' { tm:=putD st.tm o.dst v,n:=st.n,sg:=st.sg.set id b } (a.put o.dst u) w' r db:=by
   refine⟨hR',RepT.putD (fun t x e=>?_) (fun d e=>hs.n▸hd d e) hm,(cD a o.dst u).trans hs.n,?_,fun l hl0=>?_⟩
   ·obtain⟨y,hy,hr⟩:=hs.tm t x e
    exact⟨y,hy,hr.monoM hl (hs.rel.len▸hr.lt)⟩
   ·obtain⟨own,h1,h2⟩:=hs.dfr
    exact⟨own,by rw[bO];exact h1,by rw[hdf];exact h2.1,h2.2⟩
   ·obtain⟨id2,d,lr,h1,h2⟩:=hs.rd l hl0
    have hne:id≠id2:=fun e=>by subst e;rw[hb]at h2;cases h2
    obtain⟨lr',h3,h4⟩:=cj (lr:=lr) hR' hl (DR.1 h2).1 h1 (fun hg=>by rw[D8 hne,h2]at hg;cases hg)
    exact⟨id2,d,lr',h3,h4⟩
  rcases k .normal (a.put o.dst u) w' G' trivial hS hl with ⟨_,hn⟩|⟨hn,_⟩
  ·exact hn
  ·exact absurd rfl hn
theorem dE.at(hT:TyT P T)(hora:Nk P ora){o:Oper}(hd:∀d,o.dst=some d->d<st.n){fid:Nat}(hfree:mX o.op=true->jT st.sg fid){v:PV}{ef:Eff}(h:opD ora T st.tm st.sg fid o.op=some (v,ef))(he:effB ef=true):
 dE P o st .normal { tm:=putD st.tm o.dst v,n:=st.n,sg:=Lm st.sg ef }:=by
 have hlen:(Lm st.sg ef).length=st.sg.length:=by unfold Lm;cases ef <;> simp
 unfold opD at h;split at h
 ·rename_i g all hc
  split at h
  rotate_left
  ·split at h
   ·rename_i hs1
    cases h;exact dE.atSnap hora hd hfree hc hs1
   ·split at h
    ·rename_i hs2
     cases h;exact dE.atFrz hora hd hc hs2
    ·exact dE.atOwn hora hd hc h
  rename_i all' hv;split at h <;> try (cases h;done)
  rename_i hcl;split at h <;> try (cases h;done)
  ·rename_i v' hor
   cases h;obtain⟨hent,hcall⟩:=(hora.2 _ _ _).1 hor;obtain⟨c,ho⟩:=jr hc;refine⟨DS _,fun r n G a w db next Q hs k=>⟨fun f _=>trivial,?_⟩⟩
   obtain⟨us,hrun,hL⟩:=ia (P:=P) hora.1.1 hc hent hs.tm w;have hsem:o.semAt (FW r).round a.eval=execOp a.eval o:=Oper.semAt_eq _ _ _ (fun c' e=>by rw[ho]at e;cases e)
   obtain⟨G1,a1,a2,a3,a4,a5,_⟩:=kw (dh st.sg) (fun hR hv h=>jh hR hv h) (us:=us.toList) hs.rel (by simpa using hL.1) (fun j c u hc hu=>hL.2 j c u hc (by simpa using hu)) hv
   have hL1:RepL G1 all' us:=⟨by rw[a4];exact hL.1,fun j c u hc hu=>a5 j c u hc (by simpa using hu)⟩
   rw[hsem,hrun,Oper.uponIn_enter];refine⟨fun h=>(by cases h),cv r (CallsIn.mono (((hcall.frame (aB _ hcl)) st.sg).2 _ G1 w us a1 hL1) fun e w' ⟨G',hR',hl,hdf,hm⟩=>?_)⟩
   cases e with
   |panicked ch=>exact hm.elim
   |outgrown=>exact hm.elim
   |returned u =>
    have hlM:=(a2.leM st.sg.length).trans hl (DS _);have hS:RelS G' { tm:=putD st.tm o.dst v,n:=st.n,sg:=st.sg } (a.put o.dst u) w' r db:=by
     refine⟨hR',RepT.putD (fun t x e=>?_) (fun d e=>hs.n▸hd d e) hm,(cD a o.dst u).trans hs.n,?_,fun l hl0=>?_⟩
     ·obtain⟨y,hy,hr⟩:=hs.tm t x e
      exact⟨y,hy,hr.monoM hlM (hs.rel.len▸hr.lt)⟩
     ·obtain⟨own,h1,h2⟩:=hs.dfr
      exact⟨own,by rw[bO];exact h1,by rw[hdf,a3];exact h2.1,h2.2⟩
     ·obtain⟨id,d,lr,h1,h2⟩:=hs.rd l hl0
      obtain⟨lr',h3,h4⟩:=cj (lr:=lr) hR' hlM (DR.1 h2).1 h1 (fun hg=>by rw[h2]at hg;cases hg)
      exact⟨id,d,lr',h3,h4⟩
    rcases k .normal (a.put o.dst u) w' G' trivial hS hlM with ⟨_,hn⟩|⟨hn,_⟩
    ·exact hn
    ·exact absurd rfl hn
  ·rename_i v0 b hor
   split at h <;> cases h
   rename_i e kk es;obtain⟨hent,e',k',es',hb,hcles,hcall⟩:=(hora.2 _ _ _).2 _ hor;cases hb;obtain⟨c,ho⟩:=jr hc;have hfr:jT st.sg fid:=hfree (qY hc);refine⟨by show _<=(st.sg.set fid _).length;simp,fun r n G a w db next Q hs k=>⟨fun f _=>trivial,?_⟩⟩
   obtain⟨us,hrun,hL⟩:=ia (P:=P) hora.1.1 hc hent hs.tm w;have hsem:o.semAt (FW r).round a.eval=execOp a.eval o:=Oper.semAt_eq _ _ _ (fun c' e=>by rw[ho]at e;cases e)
   obtain⟨G1,a1,a2,a3,a4,a5,_⟩:=kw (dh st.sg) (fun hR hv h=>jh hR hv h) (us:=us.toList) hs.rel (by simpa using hL.1) (fun j c u hc hu=>hL.2 j c u hc (by simpa using hu)) hv
   have hL1:RepL G1 all' us:=⟨by rw[a4];exact hL.1,fun j c u hc hu=>a5 j c u hc (by simpa using hu)⟩
   rw[hsem,hrun,Oper.uponIn_enter];refine⟨fun h=>(by cases h),cv r (CallsIn.mono (hcall.frameRow (aB _ hcl) (aB _ hcles) a1 hL1 hfr) fun x w' ⟨G',u,hx,hR',hl,hdf,hm⟩=>?_)⟩
   subst hx;have hle:=Gh.le_trans a2 hl;have hlM:=hle.leM st.sg.length;have hS:RelS G' { tm:=putD st.tm o.dst (.ms fid es.length),n:=st.n,sg:=st.sg.set fid (.row false e kk es false) } (a.put o.dst u) w' r db:=by
    refine⟨hR',RepT.putD (fun t x e=>?_) (fun d e=>hs.n▸hd d e) hm,(cD a o.dst u).trans hs.n,?_,fun l hl0=>?_⟩
    ·obtain⟨y,hy,hr⟩:=hs.tm t x e
     exact⟨y,hy,hr.mono hle⟩
    ·obtain⟨own,h1,h2⟩:=hs.dfr
     exact⟨own,by rw[bO];exact h1,by rw[hdf,a3];exact h2.1,h2.2⟩
    ·obtain⟨id,d,lr,h1,h2⟩:=hs.rd l hl0
     have hne:fid≠id:=fun e=>by subst e;unfold jT at hfr;rw[hfr]at h2;cases h2
     obtain⟨lr',h3,h4⟩:=cj (lr:=lr) hR' hlM (DR.1 h2).1 h1 (fun hg=>by rw[D8 hne,h2]at hg;cases hg)
     exact⟨id,d,lr',h3,h4⟩
   rcases k .normal (a.put o.dst u) w' G' trivial hS hlM with ⟨_,hn⟩|⟨hn,_⟩
   ·exact hn
   ·exact absurd rfl hn
 ·refine⟨by show _<=(Lm st.sg ef).length;omega,fun r n G a w db next Q hs k=>⟨fun f _=>trivial,?_⟩⟩
  obtain⟨u,w',G',hrun,hR',hl',hdf',hv⟩:=op_ok (P:=P) (o:=o) hT hs.rel hs.tm (fun h=>hfree (vY h)) h
  have hlM:=hl'.leM st.sg.length;have hS:RelS G' { tm:=putD st.tm o.dst v,n:=st.n,sg:=Lm st.sg ef } (a.put o.dst u) w' r db:=by
   refine⟨hR',(hs.tm.mono hl').putD (fun d e=>hs.n▸hd d e) hv,(cD a o.dst u).trans hs.n,?_,fun l hl=>?_⟩
   ·obtain⟨own,h1,h2⟩:=hs.dfr
    exact⟨own,by rw[bO];exact h1,by rw[hdf'];exact h2.1,h2.2⟩
   ·obtain⟨id,d,lr,h1,h2⟩:=hs.rd l hl
    have hid:=(DR.1 h2).1;obtain⟨lr',h3,h4⟩:=cj (lr:=lr) hR' hlM hid h1 (fun hg=>by
     unfold Lm at hg;split at hg
     ·rw[h2]at hg;cases hg
     ·rename_i id' b'
      by_cases hii:id'=id
      ·subst hii
       rw[D4 (DR.1 h2).1]at hg;cases hg;cases he
      ·rw[D8 hii,h2]at hg;cases hg)
    exact⟨id,d,lr',h3,h4⟩
  have hsem:o.semAt (FW r).round a.eval=execOp a.eval o:=Oper.semAt_eq _ _ _ (mR h);rw[hsem];have:=k .normal (a.put o.dst u) w' G' trivial hS hlM
  rcases this with ⟨_,hn⟩|⟨hn,_⟩
  ·rcases hrun with hrun|⟨hrun,rfl⟩
   ·rw[hrun];exact hn
   ·rw[hrun];exact hn
  ·exact absurd rfl hn
theorem tv{me:Meth}{tm tm':List (Nat×PV)}{o:Op}(ht:∀t∈opTs o,b9 tm' t=b9 tm t):Ly me tm' o=Ly me tm o:=by
 cases o <;> first|rfl|skip
 rename_i c;cases hc:c.callee with
 |value fo =>
  simp only[Ly,hc];have h1:fo∈(Op.call c).operands.toList:=by simp[Op.operands,Call.operands,hc]
  have h2:∀x∈c.args.toList,x∈(Op.call c).operands.toList:=fun x hx=>by simp[Op.operands,Call.operands,hc];exact .inr (by simpa using hx)
  rw[eY fun t h=>ht t (Es.2 ⟨fo,h1,h⟩),eH fun x hx t h=>ht t (Es.2 ⟨x,h2 x hx,h⟩)]
 |invoke r name =>
  simp only[Ly,hc];have h1:r∈(Op.call c).operands.toList:=by simp[Op.operands,Call.operands,hc]
  have h2:∀x∈c.args.toList,x∈(Op.call c).operands.toList:=fun x hx=>by simp[Op.operands,Call.operands,hc];exact .inr (by simpa using hx)
  rw[eY fun t h=>ht t (Es.2 ⟨r,h1,h⟩),eH fun x hx t h=>ht t (Es.2 ⟨x,h2 x hx,h⟩)]
 |_=>simp only[Ly,hc]
theorem DN{v:PV}(h:v.closed=true):v.id1=[]:=by
 cases v <;> first|rfl|cases h
theorem qH{v:PV}(h:v.closed=true):v.deep1=[]:=by
 unfold PV.deep1;rw[List.flatMap_eq_nil_iff];intro c hc;cases v with
 |agg cs =>
  have h':ad cs=true:=h;have hc':c∈cs:=hc;refine DN ?_;clear h hc;induction cs with
  |nil=>cases hc'
  |cons x cs ih =>
   have h2:(x.closed&&ad cs)=true:=h';rw[D3]at h2;rcases D6.1 hc' with rfl|hc'
   ·exact h2.1
   ·exact ih h2.2 hc'
 |_ =>
  simp only[PV.cells,Ed]at hc;subst hc;exact DN h
theorem Ac{me:Meth}{tm:List (Nat×PV)}{o:Op}{g:FuncId}{all:List PV}(h:Ly me tm o=some (g,all)):∀x∈all,∀id∈x.deep1,id∈gM tm o:=by
 unfold Ly at h;split at h <;> try (cases h;done)
 rename_i c;split at h <;> try (cases h;done)
 ·rename_i fo hcc
  split at h <;> cases h
  rename_i first cap vs h2 h1
  have hfo:fo∈(Op.call c).operands.toList:=by simp[Op.operands,Call.operands,hcc]
  have hargs:∀x∈c.args.toList,x∈(Op.call c).operands.toList:=fun x hx=>by simp[Op.operands,Call.operands,hcc];exact .inr (by simpa using hx)
  intro x hx id hid;have fnmem:x∈first++cap->id∈gM tm (Op.call c):=fun hm=>jP rfl hfo h1 (by simp only[PV.deep,PV.cells,E2,List.flatMap_nil,Er,PV.ids];exact Es.2 ⟨x,hm,hid⟩)
  rcases Ez.1 hx with h|h
  ·exact fnmem (EY _ h)
  ·rcases Ez.1 h with h|h
   ·obtain⟨y,hy,e⟩:=lF h2 x h
    exact jP rfl (hargs y hy) e (ou hid)
   ·exact fnmem (Fp _ h)
 ·rename_i rcv name hcc
  split at h <;> try (cases h;done)
  rename_i t v vs h1 h2;split at h <;> try (cases h;done)
  rename_i hcl;split at h <;> cases h
  have hargs:∀x∈c.args.toList,x∈(Op.call c).operands.toList:=fun x hx=>by simp[Op.operands,Call.operands,hcc];exact .inr (by simpa using hx)
  intro x hx id hid;rcases D6.1 hx with rfl|hx
  ·rw[qH hcl]at hid
   cases hid
  ·obtain⟨y,hy,e⟩:=lF h2 x hx
   exact jP rfl (hargs y hy) e (ou hid)
theorem ma{sg sg':List Box}{v:PV}(h:∀id∈v.id1,sg'[id]?=sg[id]?):kz sg' v=kz sg v:=by
 cases v <;> simp only[PV.id1,Ed,Fs,Eb]at h <;> simp only[kz,h]
theorem tg{sg sg':List Box}{v:PV}(h:∀id∈v.deep1,sg'[id]?=sg[id]?):lf sg' v=lf sg v:=by
 unfold lf;split
 ·rename_i cs
  rw[eE (f:=kz sg') (g:=kz sg) (vs:=cs) fun c hc=>ma fun id hid=>h id (Es.2 ⟨c,hc,hid⟩)]
 ·rename_i hna
  refine ma fun id hid=>h id (Es.2 ⟨v,?_,hid⟩)
  cases v <;> first|(exact absurd rfl (hna _))|simp[PV.cells]
theorem mt{sg sg':List Box}:∀{all:List PV},(∀x∈all,∀id∈x.deep1,sg'[id]?=sg[id]?)->lb sg' all=lb sg all
 |[],_=>rfl
 |x::r,h=>by
  have ih:=mt (all:=r) fun y hy=>h y (DW _ hy)
  cases x <;> try exact ih
  rename_i id n;have h1:=h (.ms id n) DV id (by simp[PV.deep1,PV.cells,PV.id1])
  unfold lb;rw[h1,ih]
theorem yk{tm tm':List (Nat×PV)}{sg sg':List Box}{o:Op}{fid:Nat}(ht:∀t∈opTs o,b9 tm' t=b9 tm t)(hi:∀id∈gM tm o,sg'[id]?=sg[id]?){r:PV×Eff}(h:opD ora T tm sg fid o=some r):opD ora T tm' sg' fid o=some r:=by
 unfold opD at h ⊢;rw[tv ht];split at h
 ·rename_i g all hc
  have hid':∀x∈all,∀id∈x.deep1,sg'[id]?=sg[id]?:=fun x hx id hid=>hi id (Ac hc x hx id hid)
  have hv:iU (dh sg') all=iU (dh sg) all:=eE fun x hx=>zB fun id hid=>hid' x hx id hid
  have hv2:ml ora sg' fid g all=ml ora sg fid g all:=by
   unfold ml;rw[eE (f:=lf sg') (g:=lf sg) fun x hx=>tg fun id hid=>hid' x hx id hid]
  have hv3:tF ora sg' g all=tF ora sg g all:=by
   unfold tF;rw[mt hid'];cases hf:lb sg all with
   |none=>rfl
   |some p =>
    obtain⟨id,b⟩:=p;obtain⟨n,z,e,k,es,hmem,hb,_,_⟩:=pc hf;have hb':sg'[id]?=some (.row z e k es false):=by rw[hid' _ hmem id (by simp[PV.deep1,PV.cells,PV.id1]),hb]
    have:iU (dh (sg'.set id b)) all=iU (dh (sg.set id b)) all:=eE fun x hx=>zB fun id2 hid2=>by
     by_cases he:id=id2
     ·subst he
      rw[D4 (DR.1 hb).1,D4 (DR.1 hb').1]
     ·rw[D8 he,D8 he]
      exact hid' x hx id2 hid2
    simp only[this]
  have hv4:G6 ora sg' g all=G6 ora sg g all:=by
   unfold G6;cases ora.ow with
   |none=>rfl
   |some f =>
    match all,hid' with
    |[],_=>rfl
    |[x],hid' =>
     cases x <;> try rfl
     rename_i id n;have h1:=hid' (.ms id n) DV id (by simp[PV.deep1,PV.cells,PV.id1])
     simp only[h1]
    |x::y::r,_=>cases x <;> rfl
  simp only[hv,hv2,hv3,hv4];exact h
 ·exact xg ht hi h
end
end Go.Pv
namespace Go.Pv
open Go Go.RowKit
structure DRec where
 want:Bool
 fid:Nat
 v:PV
 ef:Eff
 rb:List Nat
 full:Option St
 deriving Inhabited
def app(o:Oper)(r:DRec)(st:St):St :=
 match r.full with
 |some s=>s
 |none=>{ tm:=putD st.tm o.dst r.v,n:=st.n,sg:=Lm st.sg r.ef }
def bU(S:Nat->Bool):Nat->List (Oper×DRec)->St->St
 |_,[],st=>st
 |k,(o,r)::ps,st=>bU S (k+1) ps (if S k=true then app o r st else st)
def wid(r:DRec):Option Nat :=
 match r.ef with
 |some (id,_)=>some id
 |none=>none
def vE(ops:Array Oper)(o:Oper):List Nat:=opTs o.op++match o.guard with
 |some (j,_)=>match ops[j]? with
  |some oj=>oj.dst.toList
  |none=>[]
 |none=>[]
def EvAt(P:Program)(ora:Ora)(T:TypeId->TyI)(ops:Array Oper)(st:St)(o:Oper)(r:DRec):Prop :=
 (∀s,r.full=some s->r.want=true∧E1 ops st.tm o=some true∧s.n=st.n∧dE P o st .normal s)∧(r.full=none->(∀d,o.dst=some d->d<st.n)∧E1 ops st.tm o=some r.want∧r.rb=(if mX o.op then r.fid::gM st.tm o.op else gM st.tm o.op) ∧
  (r.want=true->opD ora T st.tm st.sg r.fid o.op=some (r.v,r.ef)∧effB r.ef=true∧(mX o.op=true->jT st.sg r.fid))∧(r.want=false->r.v=.tuple []∧r.ef=none))
def sr(P:Program)(ora:Ora)(T:TypeId->TyI)(ops:Array Oper):List (Oper×DRec)->St->Prop
 |[],_=>True
 |(o,r)::ps,st=>EvAt P ora T ops st o r∧sr P ora T ops ps (app o r st)
section
variable {P:Program} {T:TypeId->TyI} {ora:Ora} {ops:Array Oper}
theorem cq{o:Oper}{r:DRec}{s:St}(h:r.full=some s)(st:St):app o r st=s:=by unfold app;rw[h]
theorem ol{o:Oper}{r:DRec}(h:r.full=none)(st:St)(t:Nat):b9 (app o r st).tm t=if o.dst=some t then some r.v else b9 st.tm t:=by
 unfold app;rw[h];cases h:o.dst with
 |none=>simp[putD]
 |some d=>simp[putD,eR]
theorem mI{o:Oper}{r:DRec}(h:r.full=none)(st:St):(app o r st).sg.length=st.sg.length:=by
 unfold app Lm;rw[h];cases r.ef <;> simp
theorem xl{o:Oper}{r:DRec}(hf:r.full=none)(st:St)(id:Nat)(h:wid r≠some id):(app o r st).sg[id]?=st.sg[id]?:=by
 unfold app Lm;rw[hf];unfold wid at h;cases hr:r.ef with
 |none=>rfl
 |some q =>
  obtain⟨i,b⟩:=q;rw[hr]at h;simp only;exact D8 (fun e=>h (by rw[e]))
theorem zW{o:Oper}{r:DRec}(hf:r.full=none)(st st':St)(id:Nat)(hl:st.sg.length=st'.sg.length)(h:wid r=some id):(app o r st).sg[id]?=(app o r st').sg[id]?:=by
 unfold app Lm;rw[hf];unfold wid at h;cases hr:r.ef with
 |none=>rw[hr]at h;cases h
 |some q =>
  obtain⟨i,b⟩:=q;rw[hr]at h;cases h;simp[List.getElem?_set,hl]
def cF(r:DRec):Bool:=r.full.isSome
theorem cZ{r:DRec}{s:St}(h:r.full=some s):cF r=true:=by simp[cF,h]
theorem jz{S S':Nat->Bool}{t:Nat}:∀(ps:List (Oper×DRec)) (k:Nat) (st st':St),(∀(i:Nat) (p:Oper×DRec),ps[i]?=some p->(p.1.dst=some t∨cF p.2=true)->S (k+i)=S' (k+i))->b9 st.tm t=b9 st'.tm t ->
 b9 (bU S k ps st).tm t=b9 (bU S' k ps st').tm t
 |[],_,st,st',_,h=>h
 |(o,r)::ps,k,st,st',hs,h=>by
  unfold bU;refine jz ps (k+1) _ _ (fun i p hp hd=>?_) ?_
  ·have:=hs (i+1) p (by simpa using hp) hd
   rw[show k+1+i=k+(i+1)by omega]
   exact this
  ·cases hf:r.full with
   |some s =>
    have h0:S k=S' k:=hs 0 (o,r) rfl (.inr (cZ hf));rw[h0];split
    ·rw[cq hf,cq hf]
    ·exact h
   |none =>
    by_cases hd:o.dst=some t
    ·have h0:S k=S' k:=hs 0 (o,r) rfl (.inl hd)
     rw[h0];split
     ·rw[ol hf,ol hf,DZ hd,DZ hd]
     ·exact h
    ·have key:∀(b:Bool) (s:St),b9 (if b=true then app o r s else s).tm t=b9 s.tm t:=fun b s=>by
      cases b
      ·rfl
      ·rw[DZ rfl,ol hf,D5 hd]
     rw[key,key];exact h
theorem jH{S S':Nat->Bool}{id:Nat}:∀(ps:List (Oper×DRec)) (k:Nat) (st st':St),(∀(i:Nat) (p:Oper×DRec),ps[i]?=some p->(wid p.2=some id∨cF p.2=true)->S (k+i)=S' (k+i))->st.sg.length=st'.sg.length->st.sg[id]?=st'.sg[id]? ->
 (bU S k ps st).sg[id]?=(bU S' k ps st').sg[id]?
 |[],_,st,st',_,_,h=>h
 |(o,r)::ps,k,st,st',hs,hl,h=>by
  unfold bU;refine jH ps (k+1) _ _ (fun i p hp hd=>?_) ?_ ?_
  ·have:=hs (i+1) p (by simpa using hp) hd
   rw[show k+1+i=k+(i+1)by omega]
   exact this
  ·cases hf:r.full with
   |some s =>
    have h0:S k=S' k:=hs 0 (o,r) rfl (.inr (cZ hf));rw[h0];split
    ·rw[cq hf,cq hf]
    ·exact hl
   |none =>
    have key:∀(b:Bool) (s:St),(if b=true then app o r s else s).sg.length=s.sg.length:=fun b s=>by
     cases b
     ·rfl
     ·rw[DZ rfl,mI hf]
    rw[key,key];exact hl
  ·cases hf:r.full with
   |some s =>
    have h0:S k=S' k:=hs 0 (o,r) rfl (.inr (cZ hf));rw[h0];split
    ·rw[cq hf,cq hf]
    ·exact h
   |none =>
    by_cases hd:wid r=some id
    ·have h0:S k=S' k:=hs 0 (o,r) rfl (.inl hd)
     rw[h0];split
     ·exact zW hf st st' id hl hd
     ·exact h
    ·have key:∀(b:Bool) (s:St),(if b=true then app o r s else s).sg[id]?=s.sg[id]?:=fun b s=>by
      cases b
      ·rfl
      ·rw[DZ rfl,xl hf s id hd]
     rw[key,key];exact h
theorem iA:∀(ps:List (Oper×DRec)) (k:Nat) (st:St),bU (fun _=>false) k ps st=st
 |[],_,_=>rfl
 |(a,b)::ps,k,st=>by unfold bU;simp[iA ps]
theorem mF{S:Nat->Bool}:∀(ps:List (Oper×DRec)) (k:Nat) (st:St),(∀(i:Nat) (p:Oper×DRec),ps[i]?=some p->S (k+i)=false)->bU S k ps st=st
 |[],_,_,_=>rfl
 |(o,r)::ps,k,st,h=>by
  unfold bU;have h0:S k=false:=h 0 (o,r) rfl;simp only[h0,E8,if_false];exact mF ps (k+1) st fun i p hp=>by
   have:=h (i+1) p (by simpa using hp)
   rw[show k+1+i=k+(i+1)by omega]
   exact this
theorem qC{S:Nat->Bool}:∀(ps:List (Oper×DRec)) (k:Nat) (st:St),(∀(i:Nat) (p:Oper×DRec),ps[i]?=some p->cF p.2=true->S (k+i)=false)->(bU S k ps st).sg.length=st.sg.length
 |[],_,_,_=>rfl
 |(o,r)::ps,k,st,h=>by
  unfold bU;rw[qC ps (k+1) _ fun i p hp hf=>by
   have:=h (i+1) p (by simpa using hp) hf
   rw[show k+1+i=k+(i+1)by omega]
   exact this]
  split
  ·rename_i hk
   cases hf:r.full with
   |some s=>have:=h 0 (o,r) rfl (cZ hf);rw[Fz]at this;rw[this]at hk;cases hk
   |none=>exact mI hf st
  ·rfl
theorem Al{N:Nat}(S:Nat->Bool):∀(ps:List (Oper×DRec)) (k:Nat) (st:St),(∀p∈ps,∀s,p.2.full=some s->s.n=N)->st.n=N->(bU S k ps st).n=N
 |[],_,_,_,h=>h
 |(o,r)::ps,k,st,hp,h=>by
  unfold bU;refine Al S ps (k+1) _ (fun p hm=>hp p (DW _ hm)) ?_
  split
  ·cases hf:r.full with
   |some s=>rw[cq hf];exact hp (o,r) (DV ..) s hf
   |none=>unfold app;rw[hf];exact h
  ·exact h
theorem pD{N:Nat}(S:Nat->Bool):∀(ps:List (Oper×DRec)) (k:Nat) (st:St),(∀p∈ps,∀s,p.2.full=some s->N<=s.sg.length)->N<=st.sg.length->N<=(bU S k ps st).sg.length
 |[],_,_,_,h=>h
 |(o,r)::ps,k,st,hp,h=>by
  unfold bU;refine pD S ps (k+1) _ (fun p hm=>hp p (DW _ hm)) ?_
  split
  ·cases hf:r.full with
   |some s=>rw[cq hf];exact hp (o,r) (DV ..) s hf
   |none=>rw[mI hf];exact h
  ·exact h
theorem jQ:∀(ps:List (Oper×DRec)) (st:St),sr P ora T ops ps st->∀p∈ps,∀s,p.2.full=some s->s.n=st.n∧st.sg.length<=s.sg.length
 |[],_,_,p,hp=>by cases hp
 |(o,r)::ps,st,h,p,hp=>by
  intro s hs;have step:(app o r st).n=st.n∧st.sg.length<=(app o r st).sg.length:=by
   cases hf:r.full with
   |some s'=>rw[cq hf];have:=h.1.1 s' hf;exact⟨this.2.2.1,this.2.2.2.1⟩
   |none=>exact⟨by unfold app;rw[hf],by rw[mI hf];exact DS _⟩
  rcases D6.1 hp with rfl|hp
  ·have:=h.1.1 s hs
   exact⟨this.2.2.1,this.2.2.2.1⟩
  ·obtain⟨a,b⟩:=jQ ps (app o r st) h.2 p hp s hs
   exact⟨a.trans step.1,Em step.2 b⟩
theorem rV{S:Nat->Bool}{j t:Nat}{o:Oper}{r:DRec}:∀(ps:List (Oper×DRec)) (k:Nat) (st:St),k<=j->ps[j-k]?=some (o,r)->S j=false ->
 (∀(i:Nat) (p:Oper×DRec),ps[i]?=some p->j<k+i->(cF r=true∨cF p.2=true∨(o.dst=some t∧p.1.dst=some t))->S (k+i)=false) ->
 b9 (bU (fun i=>S i||i==j) k ps st).tm t=b9 (app o r (bU S k ps st)).tm t:=by
 intro ps;induction ps with
 |nil=>intro k st _ h;simp at h
 |cons q ps ih =>
  obtain⟨o',r'⟩:=q;intro k st hk hj hS hlast;by_cases hkj:k=j
  ·subst hkj
   simp only[F9,Fu,Option.some.injEq,Prod.mk.injEq]at hj;obtain⟨rfl,rfl⟩:=hj;unfold bU;simp only[hS,Fe,Bool.or_true,E8,Fy,if_false];have out:∀(i:Nat) (p:Oper×DRec),ps[i]?=some p->(cF r'=true∨cF p.2=true∨(o'.dst=some t∧p.1.dst=some t))->(S (k+1+i)||k+1+i==k)=false:=fun i p hp hc=>by
    have h1:=hlast (i+1) p (by simpa using hp) (by omega) hc
    have h2:(k+1+i==k)=false:=by simp;omega
    have h3:S (k+1+i)=false:=by rw[show k+1+i=k+(i+1)by omega];exact h1
    simp[h2,h3]
   cases hf:r'.full with
   |some s =>
    have hfb:=cZ hf;rw[mF ps (k+1) _ fun i p hp=>out i p hp (.inl hfb),cq hf,cq hf]
   |none =>
    rw[ol hf];split
    ·rename_i hd
     have e:=jz (S:=fun i=>S i||i==k) (S':=fun _=>false) (t:=t) ps (k+1) (app o' r' st) (app o' r' st) (fun i p hp hdp=>out i p hp (.inr (hdp.elim (fun h=>.inr ⟨hd,h⟩) .inl))) rfl
     rw[e,iA,ol hf,DZ hd]
    ·rename_i hd
     refine jz ps (k+1) _ _ (fun i p hp hdp=>?_) (by rw[ol hf,D5 hd])
     have h2:(k+1+i==k)=false:=by simp;omega
     simp[h2]
  ·unfold bU
   have h2:(k==j)=false:=by simpa using hkj
   simp only[h2,GF];refine ih (k+1) _ (by omega) ?_ hS fun i p hp hlt hdp=>?_
   ·rw[show j-k=(j-(k+1))+1 by omega]at hj
    simpa using hj
   ·have:=hlast (i+1) p (by simpa using hp) (by omega) hdp
    rw[show k+1+i=k+(i+1)by omega]
    exact this
theorem qq{S:Nat->Bool}{j id:Nat}{o:Oper}{r:DRec}:∀(ps:List (Oper×DRec)) (k:Nat) (st:St),k<=j->ps[j-k]?=some (o,r)->S j=false ->
 (∀(i:Nat) (p:Oper×DRec),ps[i]?=some p->j<k+i->(cF r=true∨cF p.2=true∨(wid r=some id∧wid p.2=some id))->S (k+i)=false) ->
 (bU (fun i=>S i||i==j) k ps st).sg[id]?=(app o r (bU S k ps st)).sg[id]?:=by
 intro ps;induction ps with
 |nil=>intro k st _ h;simp at h
 |cons q ps ih =>
  obtain⟨o',r'⟩:=q;intro k st hk hj hS hlast;by_cases hkj:k=j
  ·subst hkj
   simp only[F9,Fu,Option.some.injEq,Prod.mk.injEq]at hj;obtain⟨rfl,rfl⟩:=hj;unfold bU;simp only[hS,Fe,Bool.or_true,E8,Fy,if_false];have out:∀(i:Nat) (p:Oper×DRec),ps[i]?=some p->(cF r'=true∨cF p.2=true∨(wid r'=some id∧wid p.2=some id))->S (k+1+i)=false:=fun i p hp hc=>by
    rw[show k+1+i=k+(i+1)by omega];exact hlast (i+1) p (by simpa using hp) (by omega) hc
   have nk:∀i:Nat,(k+1+i==k)=false:=fun i=>by simp;omega
   cases hf:r'.full with
   |some s =>
    have hfb:=cZ hf;rw[mF ps (k+1) _ fun i p hp=>by rw[out i p hp (.inl hfb),nk];rfl,cq hf,cq hf]
   |none =>
    by_cases hd:wid r'=some id
    ·have e:=jH (S:=fun i=>S i||i==k) (S':=fun _=>false) (id:=id) ps (k+1) (app o' r' st) (app o' r' st) (fun i p hp hdp=>by
      rw[out i p hp (.inr (hdp.elim (fun h=>.inr ⟨hd,h⟩) .inl)),nk];rfl) rfl rfl
     rw[e,iA];exact zW hf _ _ id (qC ps (k+1) st fun i p hp hfp=>out i p hp (.inr (.inl hfp))).symm hd
    ·rw[xl hf _ _ hd]
     refine jH ps (k+1) _ _ (fun i p hp hdp=>?_) (mI hf st) (xl hf _ _ hd)
     simp[nk]
  ·unfold bU
   have h2:(k==j)=false:=by simpa using hkj
   simp only[h2,GF];refine ih (k+1) _ (by omega) ?_ hS fun i p hp hlt hdp=>?_
   ·rw[show j-k=(j-(k+1))+1 by omega]at hj
    simpa using hj
   ·have:=hlast (i+1) p (by simpa using hp) (by omega) hdp
    rw[show k+1+i=k+(i+1)by omega]
    exact this
theorem txt_at:∀(ps:List (Oper×DRec)) (k:Nat) (st:St) (j:Nat) (p:Oper×DRec),sr P ora T ops ps st->ps[j]?=some p->EvAt P ora T ops (bU (fun i=>decide (i<k+j)) k ps st) p.1 p.2:=by
 intro ps;induction ps with
 |nil=>intro k st j p _ h;simp at h
 |cons q ps ih =>
  obtain⟨o,r⟩:=q;intro k st j p h hp;obtain⟨h1,h2⟩:=h;have none_from:∀(m:Nat) (ps:List (Oper×DRec)) (k':Nat) (st:St),m<=k'->bU (fun i=>decide (i<m)) k' ps st=st:=by
   intro m ps;induction ps with
   |nil=>intro k' st _;rfl
   |cons q ps ih =>
    intro k' st hm;obtain⟨a,b⟩:=q;unfold bU;have:decide (k'<m)=false:=by simp;omega
    simp only[this,E8,if_false];exact ih (k'+1) st (by omega)
  cases j with
  |zero =>
   simp at hp;subst hp;rw[none_from (k+0) _ k st (by omega)]
   exact h1
  |succ j =>
   unfold bU;have:decide (k<k+(j+1))=true:=by simp
   simp only[this,Fy];have:=ih (k+1) (app o r st) j p h2 (by simpa using hp)
   rw[show k+1+j=k+(j+1)by omega]at this
   exact this
theorem wU{st st':St}{o:Oper}{r:DRec}(hf:r.full=none)(h:EvAt P ora T ops st o r)(hn:st'.n=st.n)(ht:∀t∈vE ops o,b9 st'.tm t=b9 st.tm t)(hb:∀id∈r.rb,st'.sg[id]?=st.sg[id]?):EvAt P ora T ops st' o r:=by
 obtain⟨h1,h2,h3,h4,h5⟩:=h.2 hf;refine⟨fun s e=>(by rw[hf]at e;cases e),fun _=>?_⟩
 have ht':∀t∈opTs o.op,b9 st'.tm t=b9 st.tm t:=fun t h=>ht t (EY _ h)
 have hids:gM st'.tm o.op=gM st.tm o.op:=by
  unfold gM;have:∀(l:List Operand),(∀x∈l,∀t∈opdT x,b9 st'.tm t=b9 st.tm t)->(l.flatMap fun x=>match evO st'.tm x with|some v=>v.deep|none=>[])=l.flatMap fun x=>match evO st.tm x with|some v=>v.deep|none=>[]:=by
   intro l;induction l with
   |nil=>intro _;rfl
   |cons x l ih =>
    intro h;rw[E2,E2,ih fun y hy=>h y (DW _ hy),eY (h x (DV ..))]
  split
  ·rfl
  ·exact this _ fun x hx t h=>ht' t (Es.2 ⟨x,hx,h⟩)
 refine⟨fun d e=>hn▸h1 d e,?_,by rw[hids];exact h3,fun hw=>?_,h5⟩
 ·rw[←h2]
  unfold E1;cases hg:o.guard with
  |none=>rfl
  |some g =>
   obtain⟨j,want⟩:=g;simp only;cases hj:ops[j]? with
   |none=>rfl
   |some oj =>
    simp only;cases hd:oj.dst with
    |none=>rfl
    |some t =>
     simp only;rw[ht t (Fp _ (by simp[hg,hj,hd]))]
 ·obtain⟨a,b,c⟩:=h4 hw
  refine⟨yk ht' (fun id hid=>hb id ?_) a,b,fun hn'=>?_⟩
  ·rw[h3];split
   ·exact DW _ hid
   ·exact hid
  ·have:st'.sg[r.fid]?=st.sg[r.fid]?:=hb r.fid (by rw[h3,DZ hn'];exact DV ..)
   unfold jT;rw[this];exact c hn'
end
end Go.Pv
