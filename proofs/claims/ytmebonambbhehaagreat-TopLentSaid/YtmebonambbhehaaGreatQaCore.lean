import Derived.Test.YtmebonambbhehaaGreatQaAl
set_option linter.all false
namespace Go.Pv
open Go Go.RowKit Go.Proofs
def TabOk(_:World):Prop:=True
theorem TabOk.mono{w w':World}(_:TabOk w)(_:Below w.heap.size w w'):TabOk w':=trivial
open Go Go.RowKit
inductive Z where
 |n
 |f
 |a
 deriving DecidableEq,Inhabited
inductive PV where
 |bool (b:Bool)
 |int (k:IntKind) (n:Int)
 |str (s:List UInt8)
 |nilp
 |nilm
 |nilf
 |nili
 |sl (z:Z) (es:List PV)
 |ms (id n:Nat)
 |mp (id:Nat)
 |im (ks vs:List PV)
 |fn (f:Fn) (first cap:List PV)
 |iface (t:TypeId) (v:PV)
 |agg (cs:List PV)
 |tuple (vs:List PV)
 |bp (id off:Nat)
 |rp (id n i j:Nat)
 |pf (id d m:Nat)
 |ip (cs:List PV)
 |yl (id:Nat)
 deriving Inhabited
def PV.cells:PV->List PV
 |.agg cs=>cs
 |v=>[v]
def PV.one:PV->Bool
 |.agg _=>false
 |.tuple _=>false
 |_=>true
def flat(es:List PV):List PV:=es.flatMap PV.cells
def PV.undef:PV:=.tuple []
structure LoopR where
 tm:List (Nat×PV)
 n:Nat
 params:List Nat
 assign:Code
 body:Code
 st:LoopState
 pend:Option Code
 deriving Inhabited
inductive Box where
 |dead
 |var (cs:List PV) (frz:Bool)
 |row (z:Bool) (e:TypeId) (k:Nat) (es:List PV) (frz:Bool)
 |map (ks vs:List PV) (frz:Bool)
 |sit (s:List UInt8) (pos:Nat)
 |loop (r:LoopR)
 |ext (p:Obj->Prop)
 |gone
 deriving Inhabited
inductive Slot where
 |dead
 |blk (g:Nat)
 |lp (g d:Nat)
 |row (v:Value) (n k:Nat)
 deriving Inhabited
def Slot.block:Slot->Option Nat
 |.dead=>none
 |.blk g=>some g
 |.lp g _=>some g
 |.row v _ _=>v.ownBlock
structure Gh where
 w0:World
 S:Nat->Nat->Option Value
 SM:Nat->Option (Array MapEntry×Nat)
 rho:List Slot
 dfr:List Nat
def preV(v:Value)(d:Nat):Value :=
 match v with
 |.slice b _ c=>.slice b d c
 |v=>v
inductive Rep(G:Gh):PV->Value->Prop
 |bool {b:Bool}:Rep G (.bool b) (.bool b)
 |int {k:IntKind} {n:Int} (h:(Lit.int k n).wf=true):Rep G (.int k n) (.int k n)
 |str {s:List UInt8} (h:s.length<=maxLen):Rep G (.str s) (.string ⟨s.toArray⟩)
 |nilp:Rep G .nilp (.pointer none)
 |nilm:Rep G .nilm (.map none)
 |nilf:Rep G .nilf .nilFunc
 |nili:Rep G .nili .nilIface
 |nils:Rep G (.sl .n []) (.slice none 0 0)
 |sl {z:Z} {es:List PV} {g off cap:Nat} {sp:Option Nat} (hz:z≠.n) (hf:z=.f->cap=es.length) (k:Nat) (us:Nat->Value) (hk:∀e∈es,e.cells.length=k) (h1:∀c∈flat es,c.one=true) (hc:es.length<=cap) (hm:cap<=maxLen)
  (hS:∀(j:Nat) (c:PV),(flat es)[j]?=some c->G.S g (off+j)=some (us j))
  (hr:∀(j:Nat) (c:PV),(flat es)[j]?=some c->Rep G c (us j)) (hsp:0<cap->sp=none):Rep G (.sl z es) (.slice (some ⟨g,off,sp⟩) es.length cap)
 |ms {id n m k:Nat} {u v:Value} (hs:G.rho[id]?=some (.row v m k)) (hn:n<=m) (ho:u.oneCell'=true) (hu:n=m->u=v):Rep G (.ms id n) u
 |rp {id n i j m k:Nat} {u v:Value} (hs:G.rho[id]?=some (.row v m k)) (hn:n<=m) (ho:u.oneCell'=true)
  (hu:n=m->∃g cap,v=.slice (some ⟨g,0,none⟩) m cap∧u=.pointer (some ⟨g,i*k+j,none⟩)):Rep G (.rp id n i j) u
 |pf {id d n m k:Nat} {u v:Value} (hs:G.rho[id]?=some (.row v m k)) (hn:n<=m) (ho:u.oneCell'=true) (hu:n=m->d<=n∧u=preV v d):Rep G (.pf id d n) u
 |mp {id g:Nat} (hs:G.rho[id]?=some (.blk g)):Rep G (.mp id) (.map (some g))
 |im {ks vs:List PV} {g:Nat} {es:Array MapEntry} {c:Nat} {ls:List MapEntry} (hs:G.SM g=some (es,c)) (hp:ls.Perm es.toList) (hk:ks.length=ls.length) (hv:vs.length=ls.length)
  (hrk:∀(j:Nat) (e:MapEntry) (k:PV),ls[j]?=some e->ks[j]?=some k->Rep G k e.key)
  (hrv:∀(j:Nat) (e:MapEntry) (v:PV),ls[j]?=some e->vs[j]?=some v->Rep G v e.val):Rep G (.im ks vs) (.map (some g))
 |fn {f:Fn} {first cap:List PV} {us vs:Array Value} (hf:∀l,f≠.yield l) (h1:us.size=first.length) (h2:vs.size=cap.length)
  (hr1:∀(j:Nat) (c:PV) (u:Value),first[j]?=some c->us[j]?=some u->Rep G c u)
  (hr2:∀(j:Nat) (c:PV) (u:Value),cap[j]?=some c->vs[j]?=some u->Rep G c u):Rep G (.fn f first cap) (.func f us vs)
 |iface {t:TypeId} {v:PV} {u:Value} (h:Rep G v u):Rep G (.iface t v) (.iface t u)
 |agg {cs:List PV} {us:Array Value} (hl:us.size=cs.length) (h1:∀c∈cs,c.one=true)
  (hr:∀(j:Nat) (c:PV) (u:Value),cs[j]?=some c->us[j]?=some u->Rep G c u):Rep G (.agg cs) (.agg us)
 |tuple {cs:List PV} {us:Array Value} (hl:us.size=cs.length)
  (hr:∀(j:Nat) (c:PV) (u:Value),cs[j]?=some c->us[j]?=some u->Rep G c u):Rep G (.tuple cs) (.tuple us)
 |bp {id off g:Nat} (hs:G.rho[id]?=some (.blk g)):Rep G (.bp id off) (.pointer (some ⟨g,off,none⟩))
 |ip {cs:List PV} {g off:Nat} (us:Nat->Value) (h1:∀c∈cs,c.one=true)
  (hS:∀(j:Nat) (c:PV),cs[j]?=some c->G.S g (off+j)=some (us j))
  (hr:∀(j:Nat) (c:PV),cs[j]?=some c->Rep G c (us j)):Rep G (.ip cs) (.pointer (some ⟨g,off,none⟩))
 |yl {id l d:Nat} (hs:G.rho[id]?=some (.lp l d)):Rep G (.yl id) (.func (.yield l) #[] #[])
def RepL(G:Gh)(cs:List PV)(us:Array Value):Prop :=
 us.size=cs.length∧∀(j:Nat) (c:PV) (u:Value),cs[j]?=some c->us[j]?=some u->Rep G c u
def Slot.le:Slot->Slot->Prop
 |.dead,_=>True
 |.blk g,.blk g'=>g=g'
 |.lp g d,.lp g' d'=>g=g'∧d=d'
 |.row v n k,.row v' n' k'=>k=k'∧(n<n'∨(n=n'∧v=v'))
 |_,_=>False
theorem Slot.le_refl(s:Slot):s.le s:=by cases s <;> simp[Slot.le]
theorem Slot.le_trans{a b c:Slot}(h:a.le b)(h':b.le c):a.le c:=by
 cases a <;> cases b <;> simp only[Slot.le]at h ⊢ <;> cases c <;> simp only[Slot.le]at h' ⊢ <;> try trivial
 ·exact h.trans h'
 ·exact⟨h.1.trans h'.1,h.2.trans h'.2⟩
 ·obtain⟨rfl,h⟩:=h
  obtain⟨rfl,h'⟩:=h';refine⟨rfl,?_⟩;rcases h with h|⟨rfl,rfl⟩ <;> rcases h' with h' |⟨rfl,rfl⟩
  ·exact .inl (by omega)
  ·exact .inl h
  ·exact .inl h'
  ·exact .inr ⟨rfl,rfl⟩
structure Gh.le(G G':Gh):Prop where
 w0:G'.w0=G.w0
 S:∀g o v,G.S g o=some v->G'.S g o=some v
 SM:∀g v,G.SM g=some v->G'.SM g=some v
 old:∀g o,g<G.w0.heap.size->G'.S g o=G.S g o
 oldM:∀g,g<G.w0.heap.size->G'.SM g=G.SM g
 rho:∀(id:Nat) (s:Slot),G.rho[id]?=some s->∃s',G'.rho[id]?=some s'∧s.le s'
theorem Gh.le_refl(G:Gh):G.le G:=⟨rfl,fun _ _ _ h=>h,fun _ _ h=>h,fun _ _ _=>rfl,fun _ _=>rfl,fun _ s h=>⟨s,h,s.le_refl⟩⟩
theorem Gh.le_trans{A B C:Gh}(h:A.le B)(k:B.le C):A.le C where
 w0:=k.w0.trans h.w0
 S g o v e:=k.S _ _ _ (h.S _ _ _ e)
 SM g v e:=k.SM _ _ (h.SM _ _ e)
 old g o hg:=(k.old g o (h.w0▸hg)).trans (h.old g o hg)
 oldM g hg:=(k.oldM g (h.w0▸hg)).trans (h.oldM g hg)
 rho id s e:=by
  obtain⟨s',e',l⟩:=h.rho id s e;obtain⟨s'',e'',l'⟩:=k.rho id s' e';exact⟨s'',e'',Slot.le_trans l l'⟩
theorem Rep.mono{G G':Gh}(hl:G.le G'){v:PV}{u:Value}(h:Rep G v u):Rep G' v u:=by
 induction h with
 |bool=>exact .bool
 |int h=>exact .int h
 |str h=>exact .str h
 |nilp=>exact .nilp
 |nilm=>exact .nilm
 |nilf=>exact .nilf
 |nili=>exact .nili
 |nils=>exact .nils
 |sl hz hf k us hk h1 hc hm hS hr hsp ih=>exact .sl hz hf k us hk h1 hc hm (fun j c h=>hl.S _ _ _ (hS j c h)) ih hsp
 |ms hs hn ho hu =>
  obtain⟨s',e,l⟩:=hl.rho _ _ hs;cases s' with
  |row v' n' k' =>
   obtain⟨rfl,l⟩:=l;refine .ms e ?_ ho ?_
   ·rcases l with l|⟨rfl,_⟩ <;> omega
   ·intro he
    rcases l with l|⟨rfl,rfl⟩
    ·omega
    ·exact hu he
  |_=>exact l.elim
 |rp hs hn ho hu =>
  obtain⟨s',e,l⟩:=hl.rho _ _ hs;cases s' with
  |row v' n' k' =>
   obtain⟨rfl,l⟩:=l;refine .rp e ?_ ho ?_
   ·rcases l with l|⟨rfl,_⟩ <;> omega
   ·intro he
    rcases l with l|⟨rfl,rfl⟩
    ·omega
    ·exact hu he
  |_=>exact l.elim
 |pf hs hn ho hu =>
  obtain⟨s',e,l⟩:=hl.rho _ _ hs;cases s' with
  |row v' n' k' =>
   obtain⟨rfl,l⟩:=l;refine .pf e ?_ ho ?_
   ·rcases l with l|⟨rfl,_⟩ <;> omega
   ·intro he
    rcases l with l|⟨rfl,rfl⟩
    ·omega
    ·exact hu he
  |_=>exact l.elim
 |mp hs =>
  obtain⟨s',e,l⟩:=hl.rho _ _ hs;cases s' with
  |blk g'=>cases l;exact .mp e
  |_=>exact l.elim
 |im hs hp hk hv hrk hrv ihk ihv=>exact .im (hl.SM _ _ hs) hp hk hv ihk ihv
 |fn hf h1 h2 _ _ ih1 ih2=>exact .fn hf h1 h2 ih1 ih2
 |iface _ ih=>exact .iface ih
 |agg hl' h1 _ ih=>exact .agg hl' h1 ih
 |tuple hl' _ ih=>exact .tuple hl' ih
 |bp hs =>
  obtain⟨s',e,l⟩:=hl.rho _ _ hs;cases s' with
  |blk g'=>cases l;exact .bp e
  |_=>exact l.elim
 |ip us h1 hS _ ih=>exact .ip us h1 (fun j c h=>hl.S _ _ _ (hS j c h)) ih
 |yl hs =>
  obtain⟨s',e,l⟩:=hl.rho _ _ hs;cases s' with
  |lp g' d'=>obtain⟨rfl,rfl⟩:=l;exact .yl e
  |_=>exact l.elim
theorem RepL.mono{G G':Gh}(hl:G.le G'){cs:List PV}{us:Array Value}(h:RepL G cs us):RepL G' cs us :=
 ⟨h.1,fun j c u hc hu=>(h.2 j c u hc hu).mono hl⟩
inductive Lt(m:Nat):PV->Prop
 |bool {b:Bool}:Lt m (.bool b)
 |int {k:IntKind} {n:Int}:Lt m (.int k n)
 |str {s:List UInt8}:Lt m (.str s)
 |nilp:Lt m .nilp
 |nilm:Lt m .nilm
 |nilf:Lt m .nilf
 |nili:Lt m .nili
 |sl {z:Z} {es:List PV} (h:∀e∈es,∀c∈e.cells,Lt m c):Lt m (.sl z es)
 |ms {id n:Nat} (h:id<m):Lt m (.ms id n)
 |rp {id n i j:Nat} (h:id<m):Lt m (.rp id n i j)
 |pf {id d n:Nat} (h:id<m):Lt m (.pf id d n)
 |mp {id:Nat} (h:id<m):Lt m (.mp id)
 |im {ks vs:List PV} (h1:∀c∈ks,Lt m c) (h2:∀c∈vs,Lt m c):Lt m (.im ks vs)
 |fn {f:Fn} {first cap:List PV} (h1:∀c∈first,Lt m c) (h2:∀c∈cap,Lt m c):Lt m (.fn f first cap)
 |iface {t:TypeId} {v:PV} (h:Lt m v):Lt m (.iface t v)
 |agg {cs:List PV} (h:∀c∈cs,Lt m c):Lt m (.agg cs)
 |tuple {cs:List PV} (h:∀c∈cs,Lt m c):Lt m (.tuple cs)
 |bp {id off:Nat} (h:id<m):Lt m (.bp id off)
 |ip {cs:List PV} (h:∀c∈cs,Lt m c):Lt m (.ip cs)
 |yl {id:Nat} (h:id<m):Lt m (.yl id)
section
variable (m:Nat)
@[simp] theorem th(b:Bool):Lt m (.bool b)↔True:=F7 .bool
@[simp] theorem DO(k:IntKind)(n:Int):Lt m (.int k n)↔True:=F7 .int
@[simp] theorem lt_str(s:List UInt8):Lt m (.str s)↔True:=F7 .str
@[simp] theorem lt_nilp:Lt m .nilp↔True:=F7 .nilp
@[simp] theorem lt_nilm:Lt m .nilm↔True:=F7 .nilm
@[simp] theorem lt_nilf:Lt m .nilf↔True:=F7 .nilf
@[simp] theorem lt_nili:Lt m .nili↔True:=F7 .nili
theorem jB(v:PV):Lt m v->∀c∈v.cells,Lt m c:=by
 intro h c hc;cases v <;> simp only[PV.cells,Ed]at hc <;> first|(subst hc;exact h)|skip
 cases h with|agg h=>exact h c hc
theorem tK(v:PV)(h:∀c∈v.cells,Lt m c):Lt m v:=by
 cases v <;> simp only[PV.cells,Ed,Fs]at h <;> first|exact h|exact .agg h
theorem lt_sl(z:Z)(es:List PV):Lt m (.sl z es)↔∀e∈es,Lt m e :=
 ⟨fun h e he=>by cases h with|sl h=>exact tK m e (h e he),fun h=>.sl fun e he c hc=>jB m e (h e he) c hc⟩
@[simp] theorem lt_ms(id n:Nat):Lt m (.ms id n)↔id<m:=⟨fun h=>by cases h;assumption,.ms⟩
@[simp] theorem lt_rp(id n i j:Nat):Lt m (.rp id n i j)↔id<m:=⟨fun h=>by cases h;assumption,.rp⟩
@[simp] theorem lt_pf(id d n:Nat):Lt m (.pf id d n)↔id<m:=⟨fun h=>by cases h;assumption,.pf⟩
@[simp] theorem lt_mp(id:Nat):Lt m (.mp id)↔id<m:=⟨fun h=>by cases h;assumption,.mp⟩
@[simp] theorem lt_yl(id:Nat):Lt m (.yl id)↔id<m:=⟨fun h=>by cases h;assumption,.yl⟩
@[simp] theorem lt_bp(id off:Nat):Lt m (.bp id off)↔id<m:=⟨fun h=>by cases h;assumption,.bp⟩
theorem lt_agg(cs:List PV):Lt m (.agg cs)↔∀c∈cs,Lt m c:=⟨fun h=>by cases h;assumption,.agg⟩
theorem uC(cs:List PV):Lt m (.tuple cs)↔∀c∈cs,Lt m c:=⟨fun h=>by cases h;assumption,.tuple⟩
theorem lt_ip(cs:List PV):Lt m (.ip cs)↔∀c∈cs,Lt m c:=⟨fun h=>by cases h;assumption,.ip⟩
@[simp] theorem uE(t:TypeId)(v:PV):Lt m (.iface t v)↔Lt m v:=⟨fun h=>by cases h;assumption,.iface⟩
theorem lt_fn(f:Fn)(a b:List PV):Lt m (.fn f a b)↔(∀c∈a,Lt m c)∧∀c∈b,Lt m c:=⟨fun h=>by cases h;exact⟨‹_›,‹_›⟩,fun h=>.fn h.1 h.2⟩
theorem lt_im(a b:List PV):Lt m (.im a b)↔(∀c∈a,Lt m c)∧∀c∈b,Lt m c:=⟨fun h=>by cases h;exact⟨‹_›,‹_›⟩,fun h=>.im h.1 h.2⟩
end
theorem Lt.mono{m n:Nat}(hmn:m<=n){v:PV}(h:Lt m v):Lt n v:=by
 induction h with
 |bool=>exact .bool
 |int=>exact .int
 |str=>exact .str
 |nilp=>exact .nilp
 |nilm=>exact .nilm
 |nilf=>exact .nilf
 |nili=>exact .nili
 |sl _ ih=>exact .sl ih
 |ms h=>exact .ms (by omega)
 |rp h=>exact .rp (by omega)
 |pf h=>exact .pf (by omega)
 |mp h=>exact .mp (by omega)
 |im _ _ i1 i2=>exact .im i1 i2
 |fn _ _ i1 i2=>exact .fn i1 i2
 |iface _ ih=>exact .iface ih
 |agg _ ih=>exact .agg ih
 |tuple _ ih=>exact .tuple ih
 |bp h=>exact .bp (by omega)
 |ip _ ih=>exact .ip ih
 |yl h=>exact .yl (by omega)
theorem dq{es:List PV}{c:PV}:c∈flat es↔∃e∈es,c∈e.cells:=by simp[flat,Es]
theorem Rep.lower{G G':Gh}{m:Nat}(hS:∀g o v,G.S g o=some v->G'.S g o=some v)(hM:∀g v,G.SM g=some v->G'.SM g=some v)
 (hr:∀id,id<m->G'.rho[id]?=G.rho[id]?) {v:PV} {u:Value} (h:Rep G v u):Lt m v->Rep G' v u:=by
 induction h with
 |bool=>exact fun _=>.bool
 |int h=>exact fun _=>.int h
 |str h=>exact fun _=>.str h
 |nilp=>exact fun _=>.nilp
 |nilm=>exact fun _=>.nilm
 |nilf=>exact fun _=>.nilf
 |nili=>exact fun _=>.nili
 |nils=>exact fun _=>.nils
 |sl hz hf k us hk h1 hc hm hS' hr' hsp ih =>
  intro hlt;refine .sl hz hf k us hk h1 hc hm (fun j c h=>hS _ _ _ (hS' j c h)) (fun j c h=>ih j c h ?_) hsp
  cases hlt with
  |sl hlt =>
   obtain⟨e,he,hce⟩:=dq.1 (DU h);exact hlt e he c hce
 |ms hs hn ho hu=>exact fun hlt=>.ms ((hr _ ((lt_ms _ _ _).1 hlt)).trans hs) hn ho hu
 |rp hs hn ho hu=>exact fun hlt=>.rp ((hr _ ((lt_rp _ _ _ _ _).1 hlt)).trans hs) hn ho hu
 |pf hs hn ho hu=>exact fun hlt=>.pf ((hr _ ((lt_pf _ _ _ _).1 hlt)).trans hs) hn ho hu
 |mp hs=>exact fun hlt=>.mp ((hr _ ((lt_mp _ _).1 hlt)).trans hs)
 |im hs hp hk hv hrk hrv ihk ihv =>
  intro hlt;have:=(lt_im _ _ _).1 hlt
  exact .im (hM _ _ hs) hp hk hv (fun j e k h1 h2=>ihk j e k h1 h2 (this.1 k (DU h2))) (fun j e k h1 h2=>ihv j e k h1 h2 (this.2 k (DU h2)))
 |fn hf h1 h2 _ _ ih1 ih2 =>
  intro hlt;have:=(lt_fn _ _ _ _).1 hlt
  exact .fn hf h1 h2 (fun j c u hc hu=>ih1 j c u hc hu (this.1 c (DU hc))) (fun j c u hc hu=>ih2 j c u hc hu (this.2 c (DU hc)))
 |iface _ ih=>exact fun hlt=>.iface (ih ((uE _ _ _).1 hlt))
 |agg hl' h1 _ ih=>exact fun hlt=>.agg hl' h1 fun j c u hc hu=>ih j c u hc hu ((lt_agg _ _).1 hlt c (DU hc))
 |tuple hl' _ ih=>exact fun hlt=>.tuple hl' fun j c u hc hu=>ih j c u hc hu ((uC _ _).1 hlt c (DU hc))
 |bp hs=>exact fun hlt=>.bp ((hr _ ((lt_bp _ _ _).1 hlt)).trans hs)
 |ip us h1 hS' _ ih=>exact fun hlt=>.ip us h1 (fun j c h=>hS _ _ _ (hS' j c h)) fun j c h=>ih j c h ((lt_ip _ _).1 hlt c (DU h))
 |yl hs=>exact fun hlt=>.yl ((hr _ ((lt_yl _ _).1 hlt)).trans hs)
theorem Rep.one{G:Gh}{v:PV}{u:Value}(h:Rep G v u):v.one=true->u.oneCell'=true:=by
 intro h1;cases h <;> first|rfl|(simp[PV.one]at h1;done)|assumption
theorem bg(e:PV)(es:List PV):flat (e::es)=e.cells++flat es:=by simp[flat]
theorem eZ(a b:List PV):flat (a++b)=flat a++flat b:=by simp[flat]
theorem bG{k:Nat}:∀(es:List PV),(∀e∈es,e.cells.length=k)->(flat es).length=es.length*k
 |[],_=>by simp[flat]
 |e::es,h=>by
  rw[bg,Ea,bG es fun e he=>h e (DW _ he),h e (DV ..),Ek,E4]
  omega
theorem it{k:Nat}:∀(es:List PV),(∀e∈es,e.cells.length=k)->∀(i:Nat) (e:PV),es[i]?=some e->∀j,j<k->(flat es)[i*k+j]?=e.cells[j]?
 |[],_,i,e,he,_,_=>by simp at he
 |e0::es,h,0,e,he,j,hj=>by
  simp only[Fu,Option.some.injEq]at he;subst he;rw[bg,Nat.zero_mul,EG,DY (by rw[h e0 (DV ..)];exact hj)]
 |e0::es,h,i+1,e,he,j,hj=>by
  have h0:=h e0 (DV ..);simp only[FB]at he;have:=it es (fun e he=>h e (DW _ he)) i e he j hj
  rw[bg,D9 (by rw[h0,E4];omega),h0,←this]
  congr 1
  rw[E4];omega
def b9:List (Nat×PV)->Nat->Option PV
 |[],_=>none
 |(s,v)::r,t=>if s=t then some v else b9 r t
def RepT(G:Gh)(tm:List (Nat×PV))(a:Array Value):Prop :=
 ∀t v,b9 tm t=some v->∃u,a[t]?=some u∧Rep G v u
theorem RepT.mono{G G':Gh}(hl:G.le G'){tm:List (Nat×PV)}{a:Array Value}(h:RepT G tm a):RepT G' tm a :=
 fun t v e=>let ⟨u,hu,r⟩:=h t v e;⟨u,hu,r.mono hl⟩
def BoxOk(G:Gh)(w:World):Slot->Box->Prop
 |s,.gone=>∀g,s.block=some g->G.w0.heap.size<=g∧g<w.heap.size
 |.dead,.dead=>True
 |.blk g,.var cs frz=>G.w0.heap.size<=g∧(∃us T,w.heap[g]?=some (.cells us T (0,0))∧RepL G cs us)∧(∀c∈cs,c.one=true)∧(∀o,(frz=false∨cs.length<=o)->G.S g o=none)
 |.row v n k,.row z e k' es frz=>k'=k∧n=es.length∧(z=true↔v=.slice none 0 0)∧(∀x∈es,x.cells.length=k)∧(∀c∈flat es,c.one=true) ∧
  (∃us:List Value,w.ownsRow G.w0.heap.size e k v n us∧RepL G (flat es) us.toArray) ∧
  (∀g,v.ownBlock=some g->∀o,(frz=false∨n*k<=o)->G.S g o=none)
 |.blk g,.map ks vs frz=>G.w0.heap.size<=g∧(frz=false->G.SM g=none)∧∃(es:Array MapEntry) (c:Nat) (ls:List MapEntry),w.heap[g]?=some (.map es c)∧ls.Perm es.toList∧ks.length=ls.length∧vs.length=ls.length ∧
  (∀(j:Nat) (e:MapEntry) (k:PV),ls[j]?=some e->ks[j]?=some k->Rep G k e.key)∧(∀(j:Nat) (e:MapEntry) (v:PV),ls[j]?=some e->vs[j]?=some v->Rep G v e.val) ∧
  (∀(i j:Nat) (e e':MapEntry),es[i]?=some e->es[j]?=some e'->i<j->e.born<e'.born)∧(∀(i:Nat) (e:MapEntry),es[i]?=some e->e.born<c)
 |.blk g,.sit s pos=>G.w0.heap.size<=g∧w.heap[g]?=some (.stringIter ⟨s.toArray⟩ pos)
 |.blk g,.ext p=>G.w0.heap.size<=g∧(∃o,w.heap[g]?=some o∧p o∧∀d,o≠.deferred d)∧(∀o,G.S g o=none)∧G.SM g=none
 |.lp g d,.loop r=>G.w0.heap.size<=g∧∃(tmps:Array Value),(∃fn,w.heap[g]?=some (.loop { state:=r.st,pending:=r.pend,fn:=fn,tmps:=tmps,params:=r.params.toArray,assign:=r.assign,body:=r.body,defers:=d })) ∧
  tmps.size=r.n∧RepT G r.tm tmps∧d∈G.dfr
 |_,_=>False
structure Rel(G:Gh)(sg:List Box)(w:World):Prop where
 below:Below G.w0.heap.size G.w0 w
 len:G.rho.length=sg.length
 box:∀(id:Nat) (s:Slot) (b:Box),G.rho[id]?=some s->sg[id]?=some b->BoxOk G w s b
 inj:∀(i j:Nat) (s s':Slot) (g:Nat),i≠j->G.rho[i]?=some s->G.rho[j]?=some s'->s.block=some g->s'.block≠some g
 st:∀g o v,G.S g o=some v->w.cell? ⟨g,o,none⟩=some v
 stM:∀g es c,G.SM g=some (es,c)->w.heap[g]?=some (.map es c)
 dfr:∀b∈G.dfr,G.w0.heap.size<=b∧w.heap[b]?=some (.deferred (some []))
 tab:TabOk G.w0
theorem ba{w:World}{g:Nat}{o:Obj}(h:w.heap[g]?=some o):g<w.heap.size:=(ER.1 h).1
theorem iF{w:World}{g o:Nat}{v:Value}(h:w.cell? ⟨g,o,none⟩=some v):g<w.heap.size:=block_lt_of_cell (a:=⟨g,o,none⟩) h
theorem BoxOk.blk{G:Gh}{w:World}{s:Slot}{b:Box}(h:BoxOk G w s b){g:Nat}(hg:s.block=some g):G.w0.heap.size<=g∧g<w.heap.size:=by
 cases s with
 |dead=>cases hg
 |blk g' =>
  cases b <;> simp only[BoxOk]at h
  ·cases hg
   obtain⟨h1,⟨us,T,h2,_⟩,_⟩:=h;exact⟨h1,ba h2⟩
  ·cases hg
   obtain⟨h1,_,es,c,ls,h2,_⟩:=h;exact⟨h1,ba h2⟩
  ·cases hg
   exact⟨h.1,ba h.2⟩
  ·cases hg
   obtain⟨h1,⟨o,h2,_⟩,_⟩:=h;exact⟨h1,ba h2⟩
  ·exact h g hg
 |lp g' d =>
  cases b <;> simp only[BoxOk]at h
  ·cases hg
   obtain⟨h1,tm,⟨fn,h2⟩,_⟩:=h;exact⟨h1,ba h2⟩
  ·exact h g hg
 |row v n k =>
  cases b <;> simp only[BoxOk]at h
  ·obtain⟨_,_,_,_,_,⟨us,h,_⟩,_⟩:=h
   exact h.lt g hg
  ·exact h g hg
theorem BoxOk.keep{G G':Gh}{w w':World}{s:Slot}{b:Box}(h:BoxOk G w s b)(hsz:w.heap.size<=w'.heap.size)(hr:∀v u,Rep G v u->Rep G' v u)(h0:G'.w0=G.w0)
 (hb:∀g,s.block=some g->w'.heap[g]?=w.heap[g]?) (hS:∀g,s.block=some g->∀o,G.S g o=none->G'.S g o=none) (hM:∀g,s.block=some g->G.SM g=none->G'.SM g=none)
 (hd:∀d∈G.dfr,d∈G'.dfr):BoxOk G' w' s b:=by
 have hL:∀cs us,RepL G cs us->RepL G' cs us:=fun cs us h=>⟨h.1,fun j c u a b=>hr _ _ (h.2 j c u a b)⟩
 cases s with
 |dead =>
  cases b <;> simp only[BoxOk]at h ⊢
  exact fun g hg=>⟨h0▸(h g hg).1,Fj (h g hg).2 hsz⟩
 |blk g =>
  have hb:=hb g rfl;have hS:=hS g rfl;have hM:=hM g rfl;cases b <;> simp only[BoxOk]at h ⊢
  ·obtain⟨h1,⟨us,T,h2,h3⟩,h4,h5⟩:=h
   exact⟨h0▸h1,⟨us,T,hb.trans h2,hL _ _ h3⟩,h4,fun o ho=>hS o (h5 o ho)⟩
  ·obtain⟨h1,h2,es,c,ls,h4,hp,h5,h6,h7,h8,h9⟩:=h
   exact⟨h0▸h1,fun e=>hM (h2 e),es,c,ls,hb.trans h4,hp,h5,h6,fun j e k a b=>hr _ _ (h7 j e k a b),fun j e k a b=>hr _ _ (h8 j e k a b),h9⟩
  ·exact⟨h0▸h.1,hb.trans h.2⟩
  ·obtain⟨h1,⟨o,h2,h3⟩,h4,h5⟩:=h
   exact⟨h0▸h1,⟨o,hb.trans h2,h3⟩,fun o=>hS o (h4 o),hM h5⟩
  ·exact fun g hg=>⟨h0▸(h g hg).1,Fj (h g hg).2 hsz⟩
 |lp g d =>
  have hb:=hb g rfl;cases b <;> simp only[BoxOk]at h ⊢
  ·obtain⟨h1,tm,⟨fn,h2⟩,h3,h4,h5⟩:=h
   exact⟨h0▸h1,tm,⟨fn,hb.trans h2⟩,h3,fun t v e=>let ⟨u,hu,r⟩:=h4 t v e;⟨u,hu,hr _ _ r⟩,hd d h5⟩
  ·exact fun g hg=>⟨h0▸(h g hg).1,Fj (h g hg).2 hsz⟩
 |row v n k =>
  cases b <;> simp only[BoxOk]at h ⊢
  case gone=>exact fun g hg=>⟨h0▸(h g hg).1,Fj (h g hg).2 hsz⟩
  obtain⟨h1,h2,h3,h4,h5,⟨us,h6,h7⟩,h8⟩:=h;refine⟨h1,h2,h3,h4,h5,⟨us,?_,hL _ _ h7⟩,fun g hg o ho=>hS g hg o (h8 g hg o ho)⟩
  rw[h0];obtain⟨a,h6⟩:=h6;refine⟨a,?_⟩;rcases h6 with h6|⟨g,cap,cur,hv,r1,r2,r3⟩
  ·exact .inl h6
  ·exact .inr ⟨g,cap,cur,hv,r1,(hb g (by subst hv;rfl)).trans r2,r3⟩
section
variable {G:Gh} {sg:List Box} {w w':World}
theorem Rel.slot(h:Rel G sg w){id:Nat}{b:Box}(hb:sg[id]?=some b):∃s,G.rho[id]?=some s∧BoxOk G w s b:=by
 have hl:id<G.rho.length:=by rw[h.len];exact(DR.1 hb).1
 exact⟨G.rho[id],DT hl,h.box id _ b (DT hl) hb⟩
theorem Rel.slotBox(h:Rel G sg w){id:Nat}{s:Slot}(hs:G.rho[id]?=some s):∃b,sg[id]?=some b∧BoxOk G w s b:=by
 have hl:id<sg.length:=by rw[←h.len];exact(DR.1 hs).1
 exact⟨sg[id],DT hl,h.box id s _ hs (DT hl)⟩
theorem Rel.base_le(h:Rel G sg w):G.w0.heap.size<=w.heap.size:=h.below.size
theorem Rel.fresh(h:Rel G sg w)(g:Nat)(hg:w.heap.size<=g):(∀o,G.S g o=none)∧G.SM g=none:=by
 constructor
 ·intro o
  cases e:G.S g o with
  |none=>rfl
  |some v=>exact absurd (iF (h.st g o v e)) (by omega)
 ·cases e:G.SM g with
  |none=>rfl
  |some v=>exact absurd (ba (h.stM g v.1 v.2 e)) (by omega)
theorem Rel.keep(h:Rel G sg w)(hb:Below w.heap.size w w'):Rel G sg w' where
 below:=h.below.trans (hb.mono h.base_le)
 tab:=h.tab
 len:=h.len
 box id s b hs hbx:=by
  have:=h.box id s b hs hbx
  exact this.keep hb.size (fun _ _ r=>r) rfl (fun g hg=>hb.block g (this.blk hg).2) (fun _ _ _ e=>e) (fun _ _ e=>e) (fun _ e=>e)
 inj:=h.inj
 st g o v e:=(hb.cell (p:=⟨g,o,none⟩) (iF (h.st g o v e))).trans (h.st g o v e)
 stM g es c e:=(hb.block g (ba (h.stM g es c e))).trans (h.stM g es c e)
 dfr b hbm:=⟨(h.dfr b hbm).1,(hb.block b (ba (h.dfr b hbm).2)).trans (h.dfr b hbm).2⟩
theorem c8(w:World)(o:Obj):Below w.heap.size w (w.alloc o):=(Below.refl _ w).alloc (DS _) o
theorem vP(w:World):Below w.heap.size w w.drew:=(Below.refl _ w).drew
def Gh.push(G:Gh)(s:Slot):Gh:={ G with rho:=G.rho++[s] }
def Gh.setSlot(G:Gh)(id:Nat)(s:Slot):Gh:={ G with rho:=G.rho.set id s }
theorem Gh.push_le(G:Gh)(s:Slot):G.le (G.push s) :=
 ⟨rfl,fun _ _ _ h=>h,fun _ _ h=>h,fun _ _ _=>rfl,fun _ _=>rfl,fun id s' h=>⟨s',by
  rw[Gh.push,DY (DR.1 h).1];exact h,s'.le_refl⟩⟩
theorem Gh.setSlot_le(G:Gh)(id:Nat)(s s':Slot)(hs:G.rho[id]?=some s)(hl:s.le s'):G.le (G.setSlot id s') :=
 ⟨rfl,fun _ _ _ h=>h,fun _ _ h=>h,fun _ _ _=>rfl,fun _ _=>rfl,fun j t h=>by
  by_cases hj:id=j
  ·subst hj
   rw[hs]at h;cases h;exact⟨s',by simp[Gh.setSlot,(DR.1 hs).1],hl⟩
  ·exact⟨t,by simp only[Gh.setSlot];rw[D8 hj];exact h,t.le_refl⟩⟩
theorem Rel.push(h:Rel G sg w)(hb:Below w.heap.size w w'){s:Slot}{b:Box}(hs:∀g,s.block=some g->w.heap.size<=g)(hok:BoxOk (G.push s) w' s b):
 Rel (G.push s) (sg++[b]) w':=by
 have h':=h.keep hb;refine⟨h'.below,by simp[Gh.push,h.len],?_,?_,h'.st,h'.stM,h'.dfr,h.tab⟩
 ·intro id t c ht hc
  by_cases hid:id<sg.length
  ·rw[DY hid]at hc
   rw[Gh.push,DY (by rw[h.len];exact hid)]at ht
   exact(h'.box id t c ht hc).keep (DS _) (fun _ _ r=>r.mono (G.push_le s)) rfl (fun _ _=>rfl) (fun _ _ _ e=>e) (fun _ _ e=>e) (fun _ e=>e)
  ·have e1:id=sg.length:=by
    have:=(DR.1 hc).1
    simp at this;omega
   subst e1;rw[D9 (DS _)]at hc;rw[Gh.push,D9 (by rw[h.len];exact DS _)]at ht
   simp[h.len]at hc ht;subst hc;subst ht;exact hok
 ·intro i j s1 s2 g hij h1 h2 hb1 hb2
  have old:∀k t,k<G.rho.length->(G.rho++[s])[k]?=some t->t.block=some g->g<w.heap.size:=fun k t hk ht htb=>by
   rw[DY hk]at ht;obtain⟨b',_,hbk⟩:=h.slotBox ht;exact(hbk.blk htb).2
  have last:∀k t,¬k<G.rho.length->(G.rho++[s])[k]?=some t->k=G.rho.length∧t=s:=fun k t hk ht=>by
   have:=(DR.1 ht).1
   simp at this;have e:k=G.rho.length:=by omega
   subst e;simp at ht;exact⟨rfl,ht.symm⟩
  simp only[Gh.push]at h1 h2;by_cases hi:i<G.rho.length <;> by_cases hj:j<G.rho.length
  ·rw[DY hi]at h1
   rw[DY hj]at h2;exact h.inj i j s1 s2 g hij h1 h2 hb1 hb2
  ·obtain⟨_,rfl⟩:=last j _ hj h2
   have:=old i s1 hi h1 hb1
   have:=hs g hb2
   omega
  ·obtain⟨_,rfl⟩:=last i _ hi h1
   have:=old j s2 hj h2 hb2
   have:=hs g hb1
   omega
  ·have:=last i _ hi h1
   have:=last j _ hj h2
   omega
theorem Rel.change(h:Rel G sg w){id:Nat}{s s':Slot}{b':Box}(hs:G.rho[id]?=some s)(hl:s.le s')
 (hg:w.grownBy w' s.block) (hfr:∀g,s'.block=some g->s.block=some g∨w.heap.size<=g) (hbase:∀g,s.block=some g->G.w0.heap.size<=g)
 (hst:∀g,s.block=some g->∀o v,G.S g o=some v->w'.cell? ⟨g,o,none⟩=some v) (hstM:∀g,s.block=some g->∀es c,G.SM g=some (es,c)->w'.heap[g]?=some (.map es c))
 (hdf:∀g,s.block=some g->g∉G.dfr)
 (hok:BoxOk (G.setSlot id s') w' s' b'):Rel (G.setSlot id s') (sg.set id b') w':=by
 have hid:id<G.rho.length:=(DR.1 hs).1;have hlt:∀k,k<w.heap.size->s.block≠some k->w'.heap[k]?=w.heap[k]?:=fun k hk hne=>hg.block k hk (fun e=>hne e.symm)
 refine⟨?_,by simp[Gh.setSlot,h.len],?_,?_,?_,?_,?_,h.tab⟩
 ·exact h.below.grown hg h.base_le (fun k e=>hbase k e)
 ·intro j t c ht hc
  by_cases hj:id=j
  ·subst hj
   simp only[Gh.setSlot]at ht;rw[D4 hid]at ht;rw[D4 (by rw[←h.len];exact hid)]at hc
   cases ht;cases hc
   exact hok
  ·simp only[Gh.setSlot]at ht
   rw[D8 hj]at ht hc;have hbx:=h.box j t c ht hc;refine hbx.keep hg.size (fun _ _ r=>r.mono (G.setSlot_le id s s' hs hl)) rfl (fun g hgb=>?_) (fun _ _ _ e=>e) (fun _ _ e=>e) (fun _ e=>e)
   exact hlt g (hbx.blk hgb).2 (fun e=>h.inj id j s t g hj hs ht e hgb)
 ·intro i j s1 s2 g hij h1 h2 hb1 hb2
  simp only[Gh.setSlot]at h1 h2;have key:∀k t,k≠id->(G.rho.set id s')[k]?=some t->t.block=some g->s'.block=some g->False:=fun k t hk ht htb hb'=>by
   rw[D8 (Ne.symm hk)]at ht;rcases hfr g hb' with e|e
   ·exact h.inj id k s t g (Ne.symm hk) hs ht e htb
   ·obtain⟨c,_,hbk⟩:=h.slotBox ht
    have:=(hbk.blk htb).2
    omega
  by_cases hi:i=id
  ·subst hi
   rw[D4 hid]at h1;cases h1;exact key j s2 (Ne.symm hij) h2 hb2 hb1
  ·by_cases hj:j=id
   ·subst hj
    rw[D4 hid]at h2;cases h2;exact key i s1 hi h1 hb1 hb2
   ·rw[D8 (Ne.symm hi)]at h1
    rw[D8 (Ne.symm hj)]at h2;exact h.inj i j s1 s2 g hij h1 h2 hb1 hb2
 ·intro g o v e
  by_cases hsb:s.block=some g
  ·exact hst g hsb o v e
  ·have:=h.st g o v e
   exact(World.cell?_of_block (a:=⟨g,o,none⟩) (hlt g (iF this) hsb)).trans this
 ·intro g es c e
  by_cases hsb:s.block=some g
  ·exact hstM g hsb es c e
  ·have:=h.stM g es c e
   exact(hlt g (ba this) hsb).trans this
 ·intro b hb
  have:=h.dfr b hb
  exact⟨this.1,(hlt b (ba this.2) (fun e=>hdf b e hb)).trans this.2⟩
theorem gj{row:Option Nat}(h:Below w.heap.size w w'):w.grownBy w' row :=
 ⟨h.os,h.tape,h.output,h.size,fun k hk _=>h.block k hk⟩
theorem Rel.fill(h:Rel G sg w)(hb:Below w.heap.size w w'){fid:Nat}(hd:sg[fid]?=some .dead){s:Slot}{b:Box}(hs:∀g,s.block=some g->w.heap.size<=g)
 (hok:∀G',G.le G'->G'.w0=G.w0->(∀g o,G'.S g o=G.S g o)->(∀g,G'.SM g=G.SM g)->G'.dfr=G.dfr->BoxOk G' w' s b):∃G',Rel G' (sg.set fid b) w'∧G.le G'∧G'.dfr=G.dfr∧G'.rho[fid]?=some s:=by
 obtain⟨s0,hs0,hbx⟩:=h.slot hd;have e:s0=.dead:=by cases s0 <;> simp[BoxOk]at hbx <;> rfl
 subst e;have hle:=G.setSlot_le fid .dead s hs0 trivial;refine⟨G.setSlot fid s,?_,hle,rfl,by simp[Gh.setSlot,(DR.1 hs0).1]⟩
 exact h.change hs0 trivial (gj hb) (fun g e=>.inr (hs g e)) (fun g e=>by cases e) (fun g e=>by cases e) (fun g e=>by cases e) (fun g e=>by cases e)
  (hok _ hle rfl (fun _ _=>rfl) (fun _=>rfl) rfl)
end
abbrev Eff:=Option (Nat×Box)
def Lm(sg:List Box):Eff->List Box
 |none=>sg
 |some (id,b)=>sg.set id b
def jT(sg:List Box)(fid:Nat):Prop:=sg[fid]?=some .dead
inductive LK where
 |b
 |i (k:IntKind)
 |s
 deriving DecidableEq
inductive TyD where
 |none
 |bool
 |int (k:IntKind)
 |str
 |ptr (e:TypeId)
 |slice (e:TypeId)
 |array (n:Nat) (e:TypeId)
 |map (k e:TypeId)
 |struct (fs:List (Nat×TypeId))
 |fn
 |iface
def TyD.agg:TyD->Bool
 |.array ..=>true
 |.struct _=>true
 |_=>false
def TyD.ok:TyD->Bool
 |.none=>false
 |_=>true
structure TyI where
 size:Nat
 bytes:Nat
 zero:List PV
 d:TyD
 kinds:Option (List LK)
def vAgg:Value->Bool
 |.agg _=>true
 |_=>false
def PV.ag:PV->Bool
 |.agg _=>true
 |_=>false
def TyI.none:TyI:={ size:=0,bytes:=0,zero:=[],d:=.none,kinds:=Option.none }
def zpv:Value->Option PV
 |.bool b=>some (.bool b)
 |.int k n=>if(Lit.int k n).wf then some (.int k n)else Option.none
 |.string s=>if s.data.toList.length<=maxLen then some (.str s.data.toList)else Option.none
 |.pointer Option.none=>some .nilp
 |.slice Option.none 0 0=>some (.sl .n [])
 |.map Option.none=>some .nilm
 |.nilFunc=>some .nilf
 |.nilIface=>some .nili
 |_=>Option.none
theorem xS{G:Gh}{u:Value}{v:PV}(h:zpv u=some v):Rep G v u∧v.one=true:=by
 unfold zpv at h;split at h
 case h_1=>cases h;exact⟨.bool,rfl⟩
 case h_2=>split at h <;> cases h;exact⟨.int ‹_›,rfl⟩
 case h_3 s =>
  split at h <;> cases h
  refine⟨?_,rfl⟩;have:=Rep.str (G:=G) (s:=s.data.toList) ‹_›
  simpa using this
 case h_4=>cases h;exact⟨.nilp,rfl⟩
 case h_5=>cases h;exact⟨.nils,rfl⟩
 case h_6=>cases h;exact⟨.nilm,rfl⟩
 case h_7=>cases h;exact⟨.nilf,rfl⟩
 case h_8=>cases h;exact⟨.nili,rfl⟩
 case h_9=>cases h
def zpvs:List Value->Option (List PV)
 |[]=>some []
 |u::us=>match zpv u,zpvs us with
  |some v,some vs=>some (v::vs)
  |_,_=>Option.none
theorem lN{G:Gh}:∀{us:List Value} {vs:List PV},zpvs us=some vs->us.length=vs.length∧(∀(j:Nat) (c:PV) (u:Value),vs[j]?=some c->us[j]?=some u->Rep G c u)∧∀c∈vs,c.one=true
 |[],vs,h=>by
  cases h;exact⟨rfl,fun j c u h=>by simp at h,fun c h=>by cases h⟩
 |u::us,vs,h=>by
  unfold zpvs at h;split at h
  ·rename_i v vs' h1 h2
   cases h;obtain⟨a,b,c⟩:=lN (G:=G) h2;obtain⟨r,o⟩:=xS (G:=G) h1;refine⟨by simp[a],fun j x y hx hy=>?_,fun x hx=>?_⟩
   ·cases j with
    |zero=>simp at hx hy;subst hx;subst hy;exact r
    |succ j=>simp at hx hy;exact b j x y hx hy
   ·rcases D6.1 hx with rfl|hx
    ·exact o
    ·exact c x hx
  ·cases h
def ib(P:Program)(g:TypeId->Option (List LK))(off size:Nat):List Field->Option (List LK)
 |[]=>if off=size then some []else Option.none
 |f::fs=>match g f.type,ib P g (off+P.cellsOf f.type) size fs with
  |some ks,some r=>if f.offset=off&&ks.length=P.cellsOf f.type&&f.name != "_" then some (ks++r)else Option.none
  |_,_=>Option.none
def kindsAt(P:Program):Nat->TypeId->Option (List LK)
 |0,_=>Option.none
 |d+1,t =>
  match P.underlying t with
  |some .bool=>some [.b]
  |some (.int k)=>some [.i k]
  |some .string=>some [.s]
  |some (.array n e)=>match kindsAt P d e with
   |some ks=>if ks.length=P.cellsOf e&&n*P.cellsOf e=P.cellsOf t then some (List.flatten (List.replicate n ks))else Option.none
   |Option.none=>Option.none
  |some (.struct fs)=>ib P (kindsAt P d) 0 (P.cellsOf t) fs.toList
  |_=>Option.none
def tdOf:TypeDesc->TyD
 |.bool=>.bool
 |.int k=>.int k
 |.string=>.str
 |.pointer e=>.ptr e
 |.slice e=>.slice e
 |.array n e=>.array n e
 |.map k e=>.map k e
 |.struct fs=>.struct (fs.toList.map fun f=>(f.offset,f.type))
 |.func ..=>.fn
 |.interface _=>.iface
 |_=>.none
def tyOf(P:Program)(t:TypeId):TyI :=
 match P.info? t,P.underlying t with
 |some i,some u =>
  match i.zero with
  |some z=>match zpvs z.cells.toList with
   |some zs=>if z.cells.size=i.size&&(tdOf u).agg==(vAgg z)then{ size:=i.size,bytes:=i.bytes,zero:=zs,d:=tdOf u,kinds:=if P.keyTypeAt 20 t then kindsAt P 20 t else Option.none }else .none
   |Option.none=>.none
  |Option.none=>.none
 |_,_=>.none
structure TyOk(P:Program)(t:TypeId)(i:TyI):Prop where
 ex:∃(f:TypeInfo) (z:Value) (u:TypeDesc),P.info? t=some f∧f.size=i.size∧f.bytes=i.bytes∧f.zero=some z∧z.cells.size=i.size∧P.underlying t=some u∧tdOf u=i.d ∧
  (∀G,RepL G i.zero z.cells)∧(∀c∈i.zero,c.one=true)∧(i.d.agg=(vAgg z)) ∧
  (∀ks,i.kinds=some ks->P.keyTypeAt 20 t=true∧kindsAt P 20 t=some ks)
theorem tyOf_ok(P:Program)(t:TypeId)(h:(tyOf P t).d.ok=true):TyOk P t (tyOf P t):=by
 unfold tyOf at *;cases hi:P.info? t with
 |none=>simp[hi,TyI.none,TyD.ok]at h
 |some i =>
  cases hu:P.underlying t with
  |none=>simp[hi,hu,TyI.none,TyD.ok]at h
  |some u =>
   simp only[hi,hu]at h ⊢;cases hz:i.zero with
   |none=>simp[hz,TyI.none,TyD.ok]at h
   |some z =>
    simp only[hz]at h ⊢;cases hzs:zpvs z.cells.toList with
    |none=>simp[hzs,TyI.none,TyD.ok]at h
    |some zs =>
     simp only[hzs]at h ⊢;by_cases hc:(decide (z.cells.size=i.size)&&(tdOf u).agg==(vAgg z))=true
     ·rw[DZ hc]at h ⊢
      simp only[D3,Eo,FR]at hc;refine⟨i,z,u,hi,rfl,rfl,hz,hc.1,hu,rfl,fun G=>?_,(lN (G:=⟨default,fun _ _=>Option.none,fun _=>Option.none,[],[]⟩) hzs).2.2,hc.2,fun ks hk=>?_⟩
      ·obtain⟨a,b,_⟩:=lN (G:=G) hzs
       exact⟨by simpa using a,fun j c u hc hu=>b j c u hc (by simpa using hu)⟩
      ·dsimp only at hk
       split at hk
       ·exact⟨‹_›,hk⟩
       ·cases hk
     ·rw[D5 hc]at h
      cases h
def TyT(P:Program)(T:TypeId->TyI):Prop:=∀t,(T t).d.ok=true->TyOk P t (T t)
def PV.lit:PV->Option Lit
 |.bool b=>some (.bool b)
 |.int k n=>some (.int k n)
 |.str s=>some (.string s)
 |_=>Option.none
def PV.hasK:PV->LK->Bool
 |.bool _,.b=>true
 |.int k _,.i k'=>k=k'
 |.str _,.s=>true
 |_,_=>false
def eB:List PV->List LK->Bool
 |[],[]=>true
 |c::cs,k::ks=>c.hasK k&&eB cs ks
 |_,_=>false
theorem gQ:∀{ks ls:List LK} {cs:List PV},eB cs (ks++ls)=true->eB (cs.take ks.length) ks=true∧eB (cs.drop ks.length) ls=true
 |[],ls,cs,h=>by simpa using⟨by cases cs <;> rfl,h⟩
 |k::ks,ls,[],h=>by cases h
 |k::ks,ls,c::cs,h=>by
  simp only[EK,eB,D3]at h;have:=gQ h.2
  simp[eB,h.1,this.1,this.2]
theorem df:∀{ks:List LK} {cs:List PV},eB cs ks=true->cs.length=ks.length
 |[],[],_=>rfl
 |[],_::_,h=>by cases h
 |_::_,[],h=>by cases h
 |k::ks,c::cs,h=>by
  simp only[eB,D3]at h;simp[df h.2]
def nZ(cs:List PV):List Lit:=cs.filterMap PV.lit
theorem fI{P:Program}{G:Gh}:∀(d:Nat) (t:TypeId) (ks:List LK) (cs:List PV) (us:List Value),kindsAt P d t=some ks->eB cs ks=true ->
 us.length=cs.length->(∀(j:Nat) (c:PV) (u:Value),cs[j]?=some c->us[j]?=some u->Rep G c u)->P.keyLits d t us=some (nZ cs)
 |0,t,ks,cs,us,h,_,_,_=>by simp[kindsAt]at h
 |d+1,t,ks,cs,us,h,hk,hl,hr=>by
  have one:∀(K:LK),eB cs [K]=true->∃c u,cs=[c]∧us=[u]∧c.hasK K=true∧Rep G c u:=by
   intro K hK
   match cs,us,hK,hl,hr with
   |[c],[u],hK,_,hr=>exact⟨c,u,rfl,rfl,by simpa[eB]using hK,hr 0 c u rfl rfl⟩
   |c::c'::cs,_,hK,_,_=>simp[eB]at hK
  unfold kindsAt at h;unfold Program.keyLits;split at h
  ·rename_i hu
   cases h;obtain⟨c,u,rfl,rfl,hc,r⟩:=one _ hk;cases c <;> simp[PV.hasK]at hc
   cases r;simp[hu,nZ,PV.lit]
  ·rename_i k hu
   cases h;obtain⟨c,u,rfl,rfl,hc,r⟩:=one _ hk;cases c <;> simp[PV.hasK]at hc
   subst hc;cases r with|int hw=>simp[hu,nZ,PV.lit,hw]
  ·rename_i hu
   cases h;obtain⟨c,u,rfl,rfl,hc,r⟩:=one _ hk;cases c <;> simp[PV.hasK]at hc
   cases r with|str hw=>simp[hu,nZ,PV.lit,ByteArray.size,hw]
  ·rename_i n e hu
   split at h
   ·rename_i ks' hks'
    split at h
    ·rename_i hc
     simp only[D3,Eo]at hc;cases h;simp only[hu];have hcl:=df hk;have hlen:us.length=P.cellsOf t:=by
      rw[hl,hcl,List.length_flatten,GW,List.sum_replicate_nat,hc.1,hc.2]
     rw[DZ hlen];have key:∀(m:Nat) (cs:List PV) (us:List Value) (b:Nat) (US:List Value),eB cs (List.flatten (List.replicate m ks'))=true->us.length=cs.length ->
      (∀(j:Nat) (c:PV) (u:Value),cs[j]?=some c->us[j]?=some u->Rep G c u)->US.drop (b*P.cellsOf e)=us ->
      ((List.range' b m).mapM fun i=>P.keyLits d e ((US.drop (i*P.cellsOf e)).take (P.cellsOf e))).map List.flatten=some (nZ cs):=by
      intro m;induction m with
      |zero =>
       intro cs us b US h1 _ _ _;have:=df h1
       simp at this;subst this;simp[nZ]
      |succ m ih =>
       intro cs us b US h1 h2 h3 h4;rw[List.replicate_succ,List.flatten_cons]at h1;obtain⟨a1,a2⟩:=gQ h1;rw[hc.1]at a1 a2;have e1:=fI d e ks' (cs.take (P.cellsOf e)) (us.take (P.cellsOf e)) hks' a1 (by simp[h2]) (fun j c u hx hy=>by
        rw[El]at hx hy;split at hx
        ·rw[DZ ‹_›]at hy;exact h3 j c u hx hy
        ·cases hx)
       have e2:=ih (cs.drop (P.cellsOf e)) (us.drop (P.cellsOf e)) (b+1) US a2 (by simp[h2]) (fun j c u hx hy=>by
        rw[EU]at hx hy;exact h3 _ c u hx hy) (by rw[←h4,GR];congr 1;rw[E4];omega)
       rw[Fd,Gy,h4,e1];cases hm:(List.range' (b+1) m).mapM fun i=>P.keyLits d e ((US.drop (i*P.cellsOf e)).take (P.cellsOf e))with
       |none=>rw[hm]at e2;cases e2
       |some x =>
        rw[hm]at e2;simp only[F3,Option.some.injEq]at e2;simp only[Option.pure_def,Option.bind_eq_bind,Option.bind_some,F3,List.flatten_cons,e2,Option.some.injEq];rw[nZ,nZ,nZ,←List.filterMap_append,Ff]
     rw[F6];exact key n cs us 0 us hk hl hr (by simp)
    ·cases h
   ·cases h
  ·rename_i fs hu
   simp only[hu];have key:∀(fl:List Field) (off:Nat) (ks:List LK) (cs:List PV) (us US:List Value),ib P (kindsAt P d) off (P.cellsOf t) fl=some ks->eB cs ks=true->us.length=cs.length ->
    (∀(j:Nat) (c:PV) (u:Value),cs[j]?=some c->us[j]?=some u->Rep G c u)->US.drop off=us ->
    (fl.mapM fun f=>P.keyLits d f.type ((US.drop f.offset).take (P.cellsOf f.type))).map List.flatten=some (nZ cs)∧fl.all (·.name != "_")=true∧off+ks.length=P.cellsOf t:=by
    intro fl;induction fl with
    |nil =>
     intro off ks cs us US h1 h2 _ _ _;unfold ib at h1;split at h1
     ·cases h1
      have:=df h2
      simp at this;subst this;simp[nZ, *]
     ·cases h1
    |cons f fl ih =>
     intro off ks cs us US h1 h2 h3 h4 h5;unfold ib at h1;split at h1
     ·rename_i k1 k2 hk1 hk2
      split at h1
      ·rename_i hc
       simp only[D3,Eo]at hc;cases h1;obtain⟨a1,a2⟩:=gQ h2;rw[hc.1.2]at a1 a2;have e1:=fI d f.type k1 (cs.take (P.cellsOf f.type)) (us.take (P.cellsOf f.type)) hk1 a1 (by simp[h3]) (fun j c u hx hy=>by
        rw[El]at hx hy;split at hx
        ·rw[DZ ‹_›]at hy;exact h4 j c u hx hy
        ·cases hx)
       obtain⟨e2,e3,e4⟩:=ih (off+P.cellsOf f.type) k2 (cs.drop (P.cellsOf f.type)) (us.drop (P.cellsOf f.type)) US hk2 a2 (by simp[h3]) (fun j c u hx hy=>by
        rw[EU]at hx hy;exact h4 _ c u hx hy) (by rw[←h5,GR])
       refine⟨?_,by simp only[Fv,e3,Fi];exact hc.2,by rw[Ea,hc.1.2];omega⟩
       rw[Gy,hc.1.1,h5,e1];cases hm:fl.mapM fun f=>P.keyLits d f.type ((US.drop f.offset).take (P.cellsOf f.type))with
       |none=>rw[hm]at e2;cases e2
       |some x =>
        rw[hm]at e2;simp only[F3,Option.some.injEq]at e2;simp only[Option.pure_def,Option.bind_eq_bind,Option.bind_some,F3,List.flatten_cons,e2,Option.some.injEq];rw[nZ,nZ,nZ,←List.filterMap_append,Ff]
      ·cases h1
     ·cases h1
   obtain⟨e1,e2,e3⟩:=key fs.toList 0 ks cs us us h hk hl hr (by simp)
   have hlen:us.length=P.cellsOf t:=by rw[hl,df hk];omega
   rw[DZ ⟨hlen,by rw[←Array.all_toList];exact e2⟩]
   exact e1
  ·cases h
def eqC:List PV->List PV->Option Bool
 |[],[]=>some true
 |.bool a::r,.bool b::s=>(eqC r s).map (a==b&&·)
 |.int k a::r,.int k' b::s=>if k=k' then(eqC r s).map (a==b&&·)else Option.none
 |.str a::r,.str b::s=>(eqC r s).map (a==b&&·)
 |_,_=>Option.none
theorem pd:∀{cs ds:List PV} {r:Bool},eqC cs ds=some r->(r=true↔nZ cs=nZ ds)
 |[],[],r,h=>by cases h;simp[nZ]
 |.bool a::cs,.bool b::ds,r,h=>by
  simp only[eqC,EC]at h;obtain⟨q,hq,rfl⟩:=h;have:=pd hq
  simp[nZ,PV.lit]at this ⊢;intro _;exact this
 |.int k a::cs,.int k' b::ds,r,h=>by
  simp only[eqC]at h;split at h
  ·simp only[EC]at h
   obtain⟨q,hq,rfl⟩:=h;have:=pd hq
   subst_vars
   simp[nZ,PV.lit]at this ⊢;intro _;exact this
  ·cases h
 |.str a::cs,.str b::ds,r,h=>by
  simp only[eqC,EC]at h;obtain⟨q,hq,rfl⟩:=h;have:=pd hq
  simp[nZ,PV.lit]at this ⊢;intro _;exact this
 |[],_::_,r,h=>by simp[eqC]at h
 |c::_,[],r,h=>by cases c <;> simp[eqC]at h
 |.bool _::_,.int ..::_,r,h=>by simp[eqC]at h
 |.bool _::_,.str _::_,r,h=>by simp[eqC]at h
 |.int ..::_,.bool _::_,r,h=>by simp[eqC]at h
 |.int ..::_,.str _::_,r,h=>by simp[eqC]at h
 |.str _::_,.bool _::_,r,h=>by simp[eqC]at h
 |.str _::_,.int ..::_,r,h=>by simp[eqC]at h
 |.bool _::_,.nilp::_,r,h|.bool _::_,.nilm::_,r,h|.bool _::_,.nilf::_,r,h|.bool _::_,.nili::_,r,h|.bool _::_,.sl ..::_,r,h|.bool _::_,.ms ..::_,r,h|.bool _::_,.mp ..::_,r,h
 |.bool _::_,.im ..::_,r,h|.bool _::_,.fn ..::_,r,h|.bool _::_,.iface ..::_,r,h|.bool _::_,.agg ..::_,r,h|.bool _::_,.tuple ..::_,r,h|.bool _::_,.bp ..::_,r,h|.bool _::_,.rp ..::_,r,h|.bool _::_,.pf ..::_,r,h
 |.bool _::_,.ip ..::_,r,h|.bool _::_,.yl ..::_,r,h=>by simp[eqC]at h
 |.int ..::_,.nilp::_,r,h|.int ..::_,.nilm::_,r,h|.int ..::_,.nilf::_,r,h|.int ..::_,.nili::_,r,h|.int ..::_,.sl ..::_,r,h|.int ..::_,.ms ..::_,r,h|.int ..::_,.mp ..::_,r,h
 |.int ..::_,.im ..::_,r,h|.int ..::_,.fn ..::_,r,h|.int ..::_,.iface ..::_,r,h|.int ..::_,.agg ..::_,r,h|.int ..::_,.tuple ..::_,r,h|.int ..::_,.bp ..::_,r,h|.int ..::_,.rp ..::_,r,h|.int ..::_,.pf ..::_,r,h
 |.int ..::_,.ip ..::_,r,h|.int ..::_,.yl ..::_,r,h=>by simp[eqC]at h
 |.str ..::_,.nilp::_,r,h|.str ..::_,.nilm::_,r,h|.str ..::_,.nilf::_,r,h|.str ..::_,.nili::_,r,h|.str ..::_,.sl ..::_,r,h|.str ..::_,.ms ..::_,r,h|.str ..::_,.mp ..::_,r,h
 |.str ..::_,.im ..::_,r,h|.str ..::_,.fn ..::_,r,h|.str ..::_,.iface ..::_,r,h|.str ..::_,.agg ..::_,r,h|.str ..::_,.tuple ..::_,r,h|.str ..::_,.bp ..::_,r,h|.str ..::_,.rp ..::_,r,h|.str ..::_,.pf ..::_,r,h
 |.str ..::_,.ip ..::_,r,h|.str ..::_,.yl ..::_,r,h=>by simp[eqC]at h
 |.nilp::_,_::_,r,h|.nilm::_,_::_,r,h|.nilf::_,_::_,r,h|.nili::_,_::_,r,h|.sl ..::_,_::_,r,h|.ms ..::_,_::_,r,h|.mp ..::_,_::_,r,h|.im ..::_,_::_,r,h
 |.fn ..::_,_::_,r,h|.iface ..::_,_::_,r,h|.agg ..::_,_::_,r,h|.tuple ..::_,_::_,r,h|.bp ..::_,_::_,r,h|.rp ..::_,_::_,r,h|.pf ..::_,_::_,r,h|.ip ..::_,_::_,r,h|.yl ..::_,_::_,r,h=>by simp[eqC]at h
def eqT(i:TyI)(x y:PV):Option Bool :=
 match i.kinds with
 |some ks=>if eB x.cells ks&&eB y.cells ks then eqC x.cells y.cells else Option.none
 |Option.none=>Option.none
theorem mZ{P:Program}{t:TypeId}{i:TyI}(hi:TyOk P t i){G:Gh}{v:PV}{u:Value}(h:Rep G v u){ks:List LK}(hks:i.kinds=some ks)(hk:eB v.cells ks=true)
 (ha:i.d.agg=v.ag):u.formed P t=true:=by
 obtain⟨f,z,ud,h1,h2,h3,h4,h5,h6,h7,h8,h9,h10,h11⟩:=hi.ex;have hs:P.cellsOf t=i.size:=by simp[Program.cellsOf,h1,h2]
 obtain⟨hkt,hka⟩:=h11 ks hks;have hsz:ks.length=i.size∨i.d.agg=false:=by
  cases ha':i.d.agg
  ·exact .inr rfl
  ·refine .inl ?_
   unfold kindsAt at hka;rw[←h7]at ha';cases ud <;> simp[tdOf,TyD.agg]at ha' <;> simp only[h6]at hka
   ·split at hka
    ·split at hka
     ·rename_i hc
      simp only[D3,Eo]at hc;cases hka;rw[List.length_flatten,GW,List.sum_replicate_nat,hc.1,hc.2,hs]
     ·cases hka
    ·cases hka
   ·have key:∀(fl:List Field) (off:Nat) (ks:List LK),ib P (kindsAt P 19) off (P.cellsOf t) fl=some ks->off+ks.length=P.cellsOf t:=by
     intro fl;induction fl with
     |nil =>
      intro off ks h;unfold ib at h;split at h
      ·cases h;simp[*]
      ·cases h
     |cons f fl ih =>
      intro off ks h;unfold ib at h;split at h
      ·rename_i k1 k2 hk1 hk2
       split at h
       ·rename_i hc
        simp only[D3,Eo]at hc;cases h;have:=ih _ _ hk2
        rw[Ea,hc.1.2];omega
       ·cases h
      ·cases h
    have:=key _ 0 ks hka
    omega
 have hud:i.d.agg=(match P.underlying t with|some (.struct _)|some (.array _ _)=>true|_=>false):=by
  rw[h6,←h7];cases ud <;> rfl
 cases h <;> simp only[Value.formed,PV.cells,PV.ag]at ha hk ⊢
 case agg cs us hl hone hr =>
  rw[ha]at hud;have hlen:=df hk;have hsz':ks.length=i.size:=hsz.resolve_right (by simp[ha])
  split
  ·simp[hs,←hsz',hl,hlen]
  ·simp[hs,←hsz',hl,hlen]
  ·rename_i n1 n2
   split at hud
   ·rename_i a b;exact absurd b (n1 a)
   ·rename_i a b c;exact absurd c (n2 a b)
   ·cases hud
 all_goals first
  | (exfalso; revert hk; cases ks with
     |nil=>simp[eB]
     |cons k ks=>cases k <;> simp[eB,PV.hasK];done)
  |skip
 all_goals
  rw[ha]at hud;split
  ·rename_i a b;rw[b]at hud;cases hud
  ·rename_i a b c;rw[c]at hud;cases hud
  ·rfl
theorem mq{P:Program}{t:TypeId}{i:TyI}(hi:TyOk P t i){G:Gh}{x y:PV}{u v:Value}(hx:Rep G x u)(hy:Rep G y v){r:Bool}(h:eqT i x y=some r)
 (hax:i.d.agg=x.ag) (hay:i.d.agg=y.ag) (w:World) :
 (Op.equal t u v).run P w=.ok r w:=by
 unfold eqT at h;split at h
 ·rename_i ks hks
  split at h
  ·rename_i hk
   simp only[D3]at hk;obtain⟨f,z,ud,h1,h2,h3,h4,h5,h6,h7,h8,h9,h10,h11⟩:=hi.ex;obtain⟨hkt,hka⟩:=h11 ks hks;have cl:∀{v:PV} {u:Value},Rep G v u->u.cells.toList.length=v.cells.length∧∀(j:Nat) (c:PV) (q:Value),v.cells[j]?=some c->u.cells.toList[j]?=some q->Rep G c q:=by
    intro v u h;have single:v.cells=[v]->u.cells=#[u]->u.cells.toList.length=v.cells.length∧∀(j:Nat) (c:PV) (q:Value),v.cells[j]?=some c->u.cells.toList[j]?=some q->Rep G c q:=by
     intro e1 e2;rw[e1,e2];refine⟨rfl,fun j c q hc hq=>?_⟩
     cases j with
     |zero=>simp at hc hq;subst hc;subst hq;exact h
     |succ j=>simp at hc
    cases h
    case agg cs us hl hone hr=>exact⟨by simpa[Value.cells,PV.cells]using hl,fun j c q hc hq=>hr j c q hc (by simpa[Value.cells]using hq)⟩
    case ms hs hn ho hu=>exact single rfl (by cases u <;> first|rfl|(simp[Value.oneCell']at ho))
    case rp hs hn ho hu=>exact single rfl (by cases u <;> first|rfl|(simp[Value.oneCell']at ho))
    case pf hs hn ho hu=>exact single rfl (by cases u <;> first|rfl|(simp[Value.oneCell']at ho))
    all_goals exact single rfl rfl
   have ex:=fI (G:=G) 20 t ks x.cells u.cells.toList hka hk.1 (cl hx).1 (cl hx).2;have ey:=fI (G:=G) 20 t ks y.cells v.cells.toList hka hk.2 (cl hy).1 (cl hy).2;obtain⟨q,hq,hiff⟩:=run_equalIn_deep (P:=P) (10000-20) 20 t hkt w _ _ u v _ _ (mZ hi hx hks hk.1 hax) (mZ hi hy hks hk.2 hay) ex ey;have:q=r:=by
    have e1:=pd h;cases q <;> cases r <;> simp_all
   subst this;exact hq
  ·cases h
 ·cases h
def cpv:Value->Option PV
 |.agg cs=>match zpvs cs.toList with
  |some l=>some (.agg l)
  |none=>none
 |.tuple l=>if l.size=0 then some (.tuple [])else none
 |v=>zpv v
def evO(tm:List (Nat×PV)):Operand->Option PV
 |.tmp t=>b9 tm t
 |.const v=>cpv v
 |.global _=>none
 |.func f=>some (.fn (.func f) [] [])
def Ms(tm:List (Nat×PV)):List Operand->Option (List PV)
 |[]=>some []
 |x::xs=>match evO tm x,Ms tm xs with
  |some v,some vs=>some (v::vs)
  |_,_=>none
theorem cpv_rep{G:Gh}{u:Value}{v:PV}(h:cpv u=some v):Rep G v u:=by
 unfold cpv at h;split at h
 ·rename_i cs
  split at h
  ·rename_i l hl
   cases h;obtain⟨a,b,c⟩:=lN (G:=G) hl;exact .agg (by simpa using a) c fun j c u hc hu=>b j c u hc (by simpa using hu)
  ·cases h
 ·rename_i l
  split at h
  ·cases h
   have:l=#[]:=by simpa using ‹l.size=0›
   subst this;exact .tuple rfl fun j c u hc _=>by simp at hc
  ·cases h
 ·exact(xS h).1
section
variable {G:Gh} {tm:List (Nat×PV)} {a:Act}
theorem aH(hT:RepT G tm a.tmps){x:Operand}{v:PV}(h:evO tm x=some v):Rep G v (a.eval x):=by
 cases x with
 |tmp t =>
  obtain⟨u,hu,r⟩:=hT t v h;have:a.eval (.tmp t)=u:=by
   simp only[Act.eval,EH,hu,Option.getD_some]
  rw[this];exact r
 |const c=>exact cpv_rep h
 |global g=>cases h
 |func f =>
  cases h;exact .fn (fun l e=>by cases e) rfl rfl (fun j c u hc _=>by simp at hc) (fun j c u hc _=>by simp at hc)
theorem BT(hT:RepT G tm a.tmps):∀{xs:List Operand} {vs:List PV},Ms tm xs=some vs->xs.length=vs.length∧∀(j:Nat) (c:PV) (x:Operand),vs[j]?=some c->xs[j]?=some x->Rep G c (a.eval x)
 |[],vs,h=>by cases h;exact⟨rfl,fun j c x h=>by simp at h⟩
 |x::xs,vs,h=>by
  unfold Ms at h;split at h
  ·rename_i v vs' h1 h2
   cases h;obtain⟨p,q⟩:=BT hT h2;refine⟨by simp[p],fun j c y hc hy=>?_⟩
   cases j with
   |zero=>simp at hc hy;subst hc;subst hy;exact aH hT h1
   |succ j=>simp at hc hy;exact q j c y hc hy
  ·cases h
theorem eO(hT:RepT G tm a.tmps){xs:Array Operand}{vs:List PV}(h:Ms tm xs.toList=some vs):RepL G vs (xs.map a.eval):=by
 obtain⟨p,q⟩:=BT hT h;refine⟨by simpa using p,fun j c u hc hu=>?_⟩
 simp only[Array.getElem?_map,EC]at hu;obtain⟨x,hx,rfl⟩:=hu;exact q j c x hc (by simpa using hx)
end
theorem gy(g o n:Nat):(⟨g,o,none⟩:Addr).add n=⟨g,o+n,none⟩:=by unfold Addr.add;split <;> simp_all
def ptrC(sg:List Box):PV->Option (List PV)
 |.bp id off=>match sg[id]? with
  |some (.var cs _)=>some (cs.drop off)
  |_=>none
 |.rp id n i j=>match sg[id]? with
  |some (.row false _ _ es _)=>if es.length=n then match es[i]? with
   |some x=>some (x.cells.drop j)
   |none=>none
   else none
  |_=>none
 |.ip cs=>some cs
 |_=>none
section
variable {P:Program} {G:Gh} {sg:List Box} {w:World}
theorem cK{g o:Nat}{us:Array Value}{T:TypeId}{fz:Nat×Nat}(h:w.heap[g]?=some (.cells us T fz)):w.cell? ⟨g,o,none⟩=us[o]?:=by
 simp[World.cell?,h]
theorem cG{v:Value}{n k B:Nat}{e:TypeId}{us:List Value}(h:w.ownsRow B e k v n us)(hz:v≠.slice none 0 0):
 ∃g cap cur,v=.slice (some ⟨g,0,none⟩) n cap∧B<=g∧w.heap[g]?=some (.cells cur e (0,0))∧n<=cap∧cap<=maxLen∧cur.size=cap*k∧cur.toList.take (n*k)=us:=by
 rcases h.2 with ⟨h,_⟩|h
 ·exact absurd h hz
 ·exact h
theorem nT(hR:Rel G sg w){p:PV}{u:Value}{cs:List PV}(hp:Rep G p u)(h:ptrC sg p=some cs):
 ∃g o,u=.pointer (some ⟨g,o,none⟩)∧(∀c∈cs,c.one=true)∧∀(j:Nat) (c:PV),cs[j]?=some c->∃x,w.cell? ⟨g,o+j,none⟩=some x∧Rep G c x:=by
 cases p <;> simp only[ptrC]at h <;> try (cases h;done)
 case bp id off =>
  split at h <;> try (cases h;done)
  rename_i cs0 frz0 hb;cases h;cases hp with
  |bp hs =>
   rename_i g;have hok:=hR.box id _ _ hs hb;obtain⟨_,⟨us,T,hh,hl,hr⟩,h1,_⟩:=hok;refine⟨g,off,rfl,fun c hc=>h1 c (Fc hc),fun j c hc=>?_⟩
   rw[EU]at hc;have hlt:off+j<us.size:=by rw[hl];exact(DR.1 hc).1
   refine⟨us[off+j],?_,hr _ c _ hc (ED hlt)⟩;rw[cK hh,ED hlt]
 case rp id n i j0 =>
  split at h <;> try (cases h;done)
  rename_i e k es frz hb;split at h <;> try (cases h;done)
  rename_i hn;split at h <;> try (cases h;done)
  rename_i x hx;cases h;cases hp with
  |rp hs hle ho hu =>
   rename_i m k' v;have hok:=hR.box id _ _ hs hb;obtain⟨rfl,rfl,hz,hk,h1,⟨us,how,hl,hr⟩,_⟩:=hok;obtain⟨g,cap,rfl,rfl⟩:=hu hn.symm;obtain⟨g',cap',cur,hv,hB,hh,hnc,hcm,hcs,ht⟩:=cG how (by intro e;cases e)
   simp only[Value.slice.injEq,Option.some.injEq,Addr.mk.injEq,IV]at hv;obtain⟨⟨rfl⟩,_,rfl⟩:=hv;have hil:i<es.length:=(DR.1 hx).1;have hxk:=hk x (DU hx);refine⟨_,_,rfl,fun c hc=>h1 c (dq.2 ⟨x,DU hx,Fc hc⟩),fun j c hc=>?_⟩
   rw[EU]at hc;have hjk:j0+j<k:=by rw[←hxk];exact(DR.1 hc).1
   have hfl:=it es hk i x hx (j0+j) hjk;rw[hc]at hfl;have hfl':(flat es)[i*k+j0+j]?=some c:=by rw[←hfl];congr 1;omega
   have hlt:i*k+j0+j<us.length:=by
    have:=(DR.1 hfl').1
    have hl':us.length=(flat es).length:=by simpa using hl
    omega
   refine⟨us[i*k+j0+j],?_,hr _ c _ hfl' (by simp[DT hlt])⟩
   rw[cK hh,←Fw];have:us[i*k+j0+j]?=some us[i*k+j0+j]:=DT hlt
   rw[←this,←ht,El,DZ];rw[←ht,En]at hlt;omega
 case ip cs0 =>
  cases h;cases hp with
  |ip us h1 hS hr=>exact⟨_,_,rfl,h1,fun j c hc=>⟨us j,hR.st _ _ _ (hS j c hc),hr j c hc⟩⟩
def zj(i:TyI)(cs:List PV):Option PV :=
 if i.d.agg then(if i.size<=cs.length then some (.agg (cs.take i.size))else none)else cs.head?
theorem jq{t:TypeId}{i:TyI}(hi:TyOk P t i)(w:World):(isAgg t).run P w=.ok i.d.agg w:=by
 obtain⟨f,z,u,h1,h2,h3,h4,h5,h6,h7,_⟩:=hi.ex;rw[←h7];simp only[isAgg,Sem.run_bind,run_underlying h6,Result.andThen_ok];cases u <;> rfl
theorem g6{t:TypeId}{i:TyI}(hi:TyOk P t i)(w:World):(sizeOf t).run P w=.ok i.size w:=by
 obtain⟨f,z,u,h1,h2,_⟩:=hi.ex;simp[sizeOf,typeInfo,h1,h2]
theorem und{t:TypeId}{i:TyI}(hi:TyOk P t i):∃u,P.underlying t=some u∧tdOf u=i.d:=by
 obtain⟨f,z,u,h1,h2,h3,h4,h5,h6,h7,_⟩:=hi.ex;exact⟨u,h6,h7⟩
theorem bB{t e:TypeId}{i:TyI}(hi:TyOk P t i)(hd:i.d=.slice e):P.underlying t=some (.slice e):=by
 obtain⟨u,h1,h2⟩:=und hi;rw[hd]at h2;cases u <;> simp[tdOf]at h2
 subst h2;exact h1
theorem iq{t e:TypeId}{n:Nat}{i:TyI}(hi:TyOk P t i)(hd:i.d=.array n e):P.underlying t=some (.array n e):=by
 obtain⟨u,h1,h2⟩:=und hi;rw[hd]at h2;cases u <;> simp[tdOf]at h2
 obtain⟨rfl,rfl⟩:=h2;exact h1
theorem kc{t:TypeId}{fs:List (Nat×TypeId)}{i:TyI}(hi:TyOk P t i)(hd:i.d=.struct fs):∃fl:Array Field,P.underlying t=some (.struct fl)∧fs=fl.toList.map fun f=>(f.offset,f.type):=by
 obtain⟨u,h1,h2⟩:=und hi;rw[hd]at h2;cases u <;> simp[tdOf]at h2
 subst h2;exact⟨_,h1,rfl⟩
theorem gZ{t k e:TypeId}{i:TyI}(hi:TyOk P t i)(hd:i.d=.map k e):P.underlying t=some (.map k e):=by
 obtain⟨u,h1,h2⟩:=und hi;rw[hd]at h2;cases u <;> simp[tdOf]at h2
 obtain⟨rfl,rfl⟩:=h2;exact h1
theorem mf{t:TypeId}{i:TyI}(hi:TyOk P t i)(hd:i.d=.str):P.underlying t=some .string:=by
 obtain⟨u,h1,h2⟩:=und hi;rw[hd]at h2;cases u <;> simp[tdOf]at h2
 exact h1
theorem o8{t:TypeId}{k:IntKind}{i:TyI}(hi:TyOk P t i)(hd:i.d=.int k):P.underlying t=some (.int k):=by
 obtain⟨u,h1,h2⟩:=und hi;rw[hd]at h2;cases u <;> simp[tdOf]at h2
 subst h2;exact h1
theorem qD{t:TypeId}{i:TyI}(hi:TyOk P t i)(hd:i.d=.iface):∃ms,P.underlying t=some (.interface ms):=by
 obtain⟨u,h1,h2⟩:=und hi;rw[hd]at h2;cases u <;> simp[tdOf]at h2
 exact⟨_,h1⟩
theorem z8{t:TypeId}{i:TyI}(hi:TyOk P t i){g o:Nat}{cs:List PV}{v:PV}(h1:∀c∈cs,c.one=true)
 (hc:∀(j:Nat) (c:PV),cs[j]?=some c->∃x,w.cell? ⟨g,o+j,none⟩=some x∧Rep G c x) (h:zj i cs=some v) :
 ∃u,(Instr.loadAt t (.pointer (some ⟨g,o,none⟩))).run P w=.ok u w∧Rep G v u:=by
 unfold zj at h;split at h
 ·rename_i ha
  split at h <;> cases h
  rename_i hl;have key:∀(l:List PV),(∀(j:Nat) (c:PV),l[j]?=some c->∃x,w.cell? ⟨g,o+j,none⟩=some x∧Rep G c x) ->
   ∃us:List Value,us.length=l.length∧∀(j:Nat) (c:PV) (x:Value),l[j]?=some c->us[j]?=some x->w.cell? ⟨g,o+j,none⟩=some x∧Rep G c x:=by
   intro l hl;have hall:∀j:Fin l.length,∃x,w.cell? ⟨g,o+j,none⟩=some x∧Rep G l[j] x:=fun j=>hl j _ (DT j.2)
   refine⟨List.ofFn fun j=>Classical.choose (hall j),by simp,fun j c x hc hx=>?_⟩
   have hj:j<l.length:=(DR.1 hc).1;rw[List.getElem?_ofFn,dif_pos hj]at hx;have:=Classical.choose_spec (hall ⟨j,hj⟩)
   cases hx;rw[DT hj]at hc;cases hc;exact this
  obtain⟨us,hus,hx⟩:=key (cs.take i.size) fun j c h=>hc j c (by rw[El]at h;split at h;exact h;cases h)
  have hsz:us.length=i.size:=by rw[hus,En];omega
  refine⟨.agg us.toArray,?_,.agg (by simp[hus]) (fun c hc=>h1 c (Ey hc)) fun j c u hc hu=>(hx j c u hc (by simpa using hu)).2⟩
  have hld:=run_loadCells_list (P:=P) w ⟨g,o,none⟩ us fun j x hj=>by
   have hjl:j<(cs.take i.size).length:=by rw[←hus];exact(DR.1 hj).1
   rw[gy];exact(hx j _ x (DT hjl) hj).1
  rw[hsz]at hld;simp[Instr.loadAt,Instr.sureAddr,loadVar,jq hi,ha,g6 hi,hld]
 ·rename_i ha
  cases cs with
  |nil=>cases h
  |cons c cs =>
   simp only[List.head?_cons,Option.some.injEq]at h;subst h;obtain⟨x,hx,r⟩:=hc 0 _ rfl;simp only[Fz]at hx;refine⟨x,?_,r⟩;simp[Instr.loadAt,Instr.sureAddr,loadVar,jq hi,ha,hx]
theorem iC{v:PV}{u:Value}(h:Rep G v u)(h1:v.ag=true∨v.one=true):RepL G v.cells u.cells∧∀c∈v.cells,c.one=true:=by
 have single:v.cells=[v]->u.cells=#[u]->v.one=true->RepL G v.cells u.cells∧∀c∈v.cells,c.one=true:=by
  intro e1 e2 h1;rw[e1,e2];refine⟨⟨rfl,fun j c q hc hq=>?_⟩,fun c hc=>by rw[Ed]at hc;subst hc;exact h1⟩
  cases j with
  |zero=>simp at hc hq;subst hc;subst hq;exact h
  |succ j=>simp at hc
 cases h
 case agg cs us hl hone hr=>exact⟨⟨hl,hr⟩,hone⟩
 case tuple=>simp[PV.ag,PV.one]at h1
 case ms hs hn ho hu=>exact single rfl (by cases u <;> first|rfl|(simp[Value.oneCell']at ho)) rfl
 case rp hs hn ho hu=>exact single rfl (by cases u <;> first|rfl|(simp[Value.oneCell']at ho)) rfl
 case pf hs hn ho hu=>exact single rfl (by cases u <;> first|rfl|(simp[Value.oneCell']at ho)) rfl
 all_goals exact single rfl rfl rfl
theorem RepL.push{cs:List PV}{us:Array Value}(h:RepL G cs us)(s:Slot):RepL (G.push s) cs us:=RepL.mono (G.push_le s) h
theorem xf(hR:Rel G sg w){fid:Nat}(hd:jT sg fid)(T:TypeId){cs:List PV}{us:Array Value}(hL:RepL G cs us)(h1:∀c∈cs,c.one=true):
 ∃G',Rel G' (sg.set fid (.var cs false)) (w.alloc (.cells us T))∧G.le G'∧G'.dfr=G.dfr∧Rep G' (.bp fid 0) (.pointer (some ⟨w.heap.size,0,none⟩)):=by
 obtain⟨G',a,b,c,d⟩:=hR.fill (b:=.var cs false) (c8 w (.cells us T)) hd (s:=.blk w.heap.size) (fun g hg=>by cases hg;exact DS _) (fun G' hle hw hS hM hdf=>⟨hw▸hR.base_le,⟨us,T,heap_alloc_new w _,RepL.mono hle hL⟩,h1,fun o _=>by
  rw[hS];exact(hR.fresh w.heap.size (DS _)).1 o⟩)
 exact⟨G',a,b,c,.bp d⟩
theorem od(t:TypeId)(v:Value)(w:World):(newVar t v).run P w=.ok ⟨w.heap.size,0,none⟩ (w.alloc (.cells v.cells t)):=by
 simp[newVar,newRow]
theorem box_ok(hR:Rel G sg w){fid:Nat}(hd:jT sg fid)(t:TypeId){v:PV}{u:Value}(hv:Rep G v u)(h1:v.ag=true∨v.one=true):
 ∃w' G',(Instr.box t u).run P w=.ok (.pointer (some ⟨w.heap.size,0,none⟩)) w'∧Rel G' (sg.set fid (.var v.cells false)) w'∧G.le G'∧G'.dfr=G.dfr∧Rep G' (.bp fid 0) (.pointer (some ⟨w.heap.size,0,none⟩)):=by
 obtain⟨hL,ho⟩:=iC hv h1;obtain⟨G',a,b,c,d⟩:=xf hR hd t hL ho;exact⟨_,G',by simp[Instr.box,od],a,b,c,d⟩
theorem alloc_ok(hR:Rel G sg w){fid:Nat}(hd:jT sg fid){t:TypeId}{i:TyI}(hi:TyOk P t i):
 ∃w' G',(Instr.alloc t true (.tuple #[])).run P w=.ok (.pointer (some ⟨w.heap.size,0,none⟩)) w'∧Rel G' (sg.set fid (.var i.zero false)) w'∧G.le G'∧G'.dfr=G.dfr∧Rep G' (.bp fid 0) (.pointer (some ⟨w.heap.size,0,none⟩)):=by
 obtain⟨f,z,u,h1,h2,h3,h4,h5,h6,h7,h8,h9,h10,_⟩:=hi.ex;obtain⟨G',a,b,c,d⟩:=xf hR hd t (h8 G) h9;exact⟨_,G',by simp[Instr.alloc,zeroValue,typeInfo,h1,h4,od],a,b,c,d⟩
end
def aW{α:Type}(l:List α)(o:Nat)(new:List α):List α:=l.take o++new++l.drop (o+new.length)
theorem cd{α:Type}(l:List α)(o:Nat)(new:List α)(h:o+new.length<=l.length):(aW l o new).length=l.length:=by
 simp[aW,En,List.length_drop];omega
theorem da{α:Type}(l:List α)(o:Nat)(new:List α)(h:o+new.length<=l.length)(j:Nat):
 (aW l o new)[j]?=if o<=j∧j<o+new.length then new[j-o]? else l[j]?:=by
 unfold aW;by_cases h1:j<o
 ·rw[D5 (by omega),Et,DY (by simp;omega),El,DZ h1]
 ·by_cases h2:j<o+new.length
  ·rw[DZ ⟨by omega,h2⟩,Et,D9 (by simp;omega),DY (by simp;omega)]
   congr 1;simp;omega
  ·rw[D5 (by omega),D9 (by simp;omega),EU]
   congr 1;simp;omega
theorem eF{α:Type}{l:List α}{o:Nat}{new:List α}{c:α}(h:c∈aW l o new):c∈l∨c∈new:=by
 simp only[aW,Ez]at h;rcases h with (h|h)|h
 ·exact .inl (Ey h)
 ·exact .inr h
 ·exact .inl (Fc h)
def d9(x:PV)(j:Nat)(vs:List PV):PV :=
 if x.ag then .agg (aW x.cells j vs)else vs.headD .nilp
def m4(sg:List Box)(p v:PV):Option (Nat×Box) :=
 match p with
 |.bp id off=>match sg[id]? with
  |some (.var cs false)=>if off+v.cells.length<=cs.length then some (id,.var (aW cs off v.cells) false)else none
  |_=>none
 |.rp id n i j=>match sg[id]? with
  |some (.row false e k es false)=>if es.length=n then match es[i]? with
   |some x=>if 0<v.cells.length∧j+v.cells.length<=k then some (id,.row false e k (es.set i (d9 x j v.cells)) false)else none
   |none=>none
   else none
  |_=>none
 |_=>none
section
variable {P:Program} {G:Gh} {sg:List Box} {w:World}
theorem eL{cs vs:List PV}{us new:List Value}{o:Nat}(hl:o+vs.length<=cs.length)(h:RepL G cs us.toArray)(h':RepL G vs new.toArray):
 RepL G (aW cs o vs) (aW us o new).toArray:=by
 have e1:us.length=cs.length:=by simpa using h.1
 have e2:new.length=vs.length:=by simpa using h'.1
 refine⟨by simp[cd us o new (by omega),cd cs o vs hl,e1],fun j c u hc hu=>?_⟩
 rw[da _ _ _ hl]at hc;have hu':(aW us o new)[j]?=some u:=by simpa using hu
 rw[da _ _ _ (by omega)]at hu'
 split at hc
 ·rename_i hj
  rw[DZ (by omega)]at hu'
  exact h'.2 _ c u hc (by simpa using hu')
 ·rename_i hj
  rw[D5 (by omega)]at hu'
  exact h.2 j c u hc (by simpa using hu')
theorem dR(w:World)(g:Nat)(cs:Array Value):w.grownBy (w.setRow g cs) (some g) :=
 ⟨rfl,rfl,rfl,by simp,fun k _ hk=>setRow_other w g k _ (fun e=>hk (by simp[e]))⟩
theorem oX{k:Nat}:∀(es:List PV) (i:Nat) (x x':PV),(∀e∈es,e.cells.length=k)->es[i]?=some x->∀(j:Nat) (vs:List PV),j+vs.length<=k->x'.cells=aW x.cells j vs ->
 flat (es.set i x')=aW (flat es) (i*k+j) vs
 |[],i,x,x',_,h,_,_,_,_=>by simp at h
 |e::es,0,x,x',hk,h,j,vs,hj,hx=>by
  simp only[Fu,Option.some.injEq]at h;subst h;have h0:=hk e (DV ..);simp only[List.set_cons_zero,bg,hx,Nat.zero_mul,EG];simp only[aW,List.take_append,List.drop_append,Et];rw[show j-e.cells.length=0 by omega,show j+vs.length-e.cells.length=0 by omega]
  simp
 |e::es,i+1,x,x',hk,h,j,vs,hj,hx=>by
  have h0:=hk e (DV ..);simp only[FB]at h;have ih:=oX es i x x' (fun y hy=>hk y (DW _ hy)) h j vs hj hx
  simp only[List.set_cons_succ,bg,ih];have e1:(i+1)*k+j=e.cells.length+(i*k+j):=by rw[E4];omega
  rw[e1];simp only[aW,List.take_append,List.drop_append];rw[EQ (l:=e.cells) (by omega),show e.cells.length+(i*k+j)-e.cells.length=i*k+j by omega,
   Ef (by omega:e.cells.length<=e.cells.length+(i*k+j)+vs.length),show e.cells.length+(i*k+j)+vs.length-e.cells.length=i*k+j+vs.length by omega]
  simp
theorem kG{t:TypeId}{i:TyI}(hi:TyOk P t i){g o:Nat}{T:TypeId}{cur:Array Value}{u:Value}(hg:w.heap[g]?=some (.cells cur T (0,0)))(hsz:u.cells.size=i.size)
 (hfit:o+u.cells.size<=cur.size) (h1:∀v∈u.cells.toList,v.oneCell'=true) :
 (Instr.storeAt t (.pointer (some ⟨g,o,none⟩)) u).run P w=.ok () (w.setRow g (aW cur.toList o u.cells.toList).toArray):=by
 have:=run_storeCells_at P g o T u.cells.toList 0 cur w hg (by simpa using hfit) h1
 simp only[Fz]at this;simp[Instr.storeAt,Instr.sureAddr,storeVar,g6 hi,hsz,this,aW]
theorem kH(hR:Rel G sg w){id g:Nat}{s:Slot}{b:Box}(hs:G.rho[id]?=some s)(hb:sg[id]?=some b)(hg:s.block=some g)(hng:b≠.gone:=by intro e;cases e):g∉G.dfr:=by
 intro hm;have hd:=(hR.dfr g hm).2;have hok:=hR.box id s b hs hb;cases s with
 |dead=>cases hg
 |blk g' =>
  cases hg;cases b <;> simp only[BoxOk]at hok
  ·obtain⟨_,⟨us,T,h,_⟩,_⟩:=hok;rw[hd]at h;cases h
  ·obtain⟨_,_,es,c,ls,h,_⟩:=hok;rw[hd]at h;cases h
  ·rw[hd]at hok;cases hok.2
  ·obtain⟨_,⟨o,h,_,hnd⟩,_⟩:=hok;rw[hd]at h;cases h;exact absurd rfl (hnd _)
  ·exact absurd rfl hng
 |lp g' d' =>
  cases hg;cases b <;> simp only[BoxOk]at hok
  ·obtain⟨_,tm,⟨fn,h⟩,_⟩:=hok;rw[hd]at h;cases h
  ·exact absurd rfl hng
 |row v n k =>
  cases b <;> simp only[BoxOk]at hok
  case gone=>exact absurd rfl hng
  obtain⟨_,_,_,_,_,⟨us,h,_⟩,_⟩:=hok;rcases h.2 with ⟨h,_⟩|⟨g',cap,cur,h,_,h',_⟩
  ·subst h;cases hg
  ·subst h;cases hg;rw[hd]at h';cases h'
theorem cn{id:Nat}{s:Slot}(hs:G.rho[id]?=some s):G.setSlot id s=G:=by
 unfold Gh.setSlot;have:G.rho.set id s=G.rho:=by
  apply E6;intro j;by_cases h:id=j
  ·subst h
   rw[D4 (DR.1 hs).1,hs]
  ·rw[D8 h]
 rw[this]
theorem store_ok(hR:Rel G sg w){t:TypeId}{i:TyI}(hi:TyOk P t i){p v:PV}{pu u:Value}(hp:Rep G p pu)(hv:Rep G v u)(h1:v.ag=true∨v.one=true)(hsz:v.cells.length=i.size)
 {r:Nat×Box} (h:m4 sg p v=some r) :
 ∃w',(Instr.storeAt t pu u).run P w=.ok () w'∧Rel G (sg.set r.1 r.2) w':=by
 obtain⟨hL,ho⟩:=iC hv h1;have hus:u.cells.size=v.cells.length:=hL.1;have hone:∀x∈u.cells.toList,x.oneCell'=true:=by
  intro x hx;obtain⟨j,hj,rfl⟩:=EX hx;have hjl:j<v.cells.length:=by rw[←hus];simpa using hj
  exact(hL.2 j v.cells[j] _ (DT hjl) (by rw[←Fw];exact DT hj)).one (ho _ (E5 hjl))
 cases p <;> simp only[m4]at h <;> try (cases h;done)
 case bp id off =>
  split at h <;> try (cases h;done)
  rename_i cs hb;split at h <;> try (cases h;done)
  rename_i hfit;cases h;cases hp with
  |bp hs =>
   rename_i g;have hok:=hR.box id _ _ hs hb;obtain⟨hB,⟨us,T,hh,hLu⟩,h1',hS⟩:=hok;have hul:us.size=cs.length:=hLu.1;refine⟨_,kG hi hh (by omega) (by omega) hone,?_⟩
   have hset:=cn hs;rw[←hset];refine hR.change hs (Slot.le_refl _) (dR w g _) (fun g' e=>.inl e) (fun g' e=>by cases e;exact hB) (fun g' e o v hv=>by cases e;rw[hS o (.inl rfl)]at hv;cases hv)
    (fun g' e es c hM=>?_) (fun g' e=>kH hR hs hb e) ?_
   ·cases e
    have:=hR.stM _ _ _ hM
    rw[hh]at this;cases this
   ·rw[hset]
    refine⟨hB,⟨_,T,setRow_heap w g us _ T _ hh,?_⟩,fun c hc=>?_,fun o _=>hS o (.inl rfl)⟩
    ·exact eL hfit (by simpa using hLu) (by simpa using hL)
    ·rcases eF hc with hc|hc
     ·exact h1' c hc
     ·exact ho c hc
 case rp id n i0 j =>
  split at h <;> try (cases h;done)
  rename_i e k es hb;split at h <;> try (cases h;done)
  rename_i hn;split at h <;> try (cases h;done)
  rename_i x hx;split at h <;> try (cases h;done)
  rename_i hfit;obtain⟨hpos,hfit⟩:=hfit;cases h;cases hp with
  |rp hs hle ho' hu =>
   rename_i m k' v0;have hok:=hR.box id _ _ hs hb;obtain⟨rfl,rfl,hz,hk,h1',⟨us,how,hLu⟩,hS⟩:=hok;obtain⟨g,cap,rfl,rfl⟩:=hu hn.symm;obtain⟨g',cap',cur,hv',hB,hh,hnc,hcm,hcs,ht⟩:=cG how (by intro e;cases e)
   simp only[Value.slice.injEq,Option.some.injEq,Addr.mk.injEq,IV]at hv';obtain⟨⟨rfl⟩,_,rfl⟩:=hv';have hil:i0<es.length:=(DR.1 hx).1;have hxk:=hk x (DU hx);have hbnd:i0*k+k<=es.length*k:=by
    have:(i0+1)*k<=es.length*k:=E7 _ hil
    rw[E4]at this;omega
   have hcap:es.length*k<=cap*k:=E7 _ hnc;have hx':(d9 x j v.cells).cells=aW x.cells j v.cells:=by
    unfold d9;split
    ·rfl
    ·rename_i hna
     have hc1:x.cells=[x]:=by cases x <;> first|rfl|(simp[PV.ag]at hna)
     have hk1:k=1:=by rw[←hxk,hc1];rfl
     have hvl:v.cells.length<=1:=by omega
     have hj0:j=0:=by omega
     have hv1:∃y,v.cells=[y]:=GD.1 (by omega)
     obtain⟨y,hy⟩:=hv1;have hyo:=ho y (by rw[hy];simp)
     rw[hy,hc1,hj0];simp only[List.headD_cons,aW,List.take_zero,EA,List.length_singleton,EG,List.drop_succ_cons,GS,Er];cases y <;> first|rfl|(simp[PV.one]at hyo)
   have hfs:=oX es i0 x (d9 x j v.cells) hk hx j v.cells hfit hx';have hlen:us.length=es.length*k:=how.1;refine⟨_,kG hi hh (by omega) (by rw[hcs];omega) hone,?_⟩
   have hset:=cn hs;rw[←hset];refine hR.change hs (Slot.le_refl _) (dR w g _) (fun g' e=>.inl e) (fun g' e=>by cases e;exact hB) (fun g' e o v hv=>by rw[hS g' e o (.inl rfl)]at hv;cases hv)
    (fun g' e es c hM=>?_) (fun g' e=>kH hR hs hb e) ?_
   ·cases e
    have:=hR.stM _ _ _ hM
    rw[hh]at this;cases this
   ·rw[hset]
    have hflk:∀y∈es.set i0 (d9 x j v.cells),y.cells.length=k:=by
     intro y hy;rcases FO hy with hy|rfl
     ·exact hk y hy
     ·rw[hx',cd _ _ _ (by omega)];exact hxk
    refine⟨rfl,by simp,hz,hflk,fun c hc=>?_,⟨aW us (i0*k+j) u.cells.toList,?_,?_⟩,hS⟩
    ·rw[hfs]at hc
     rcases eF hc with hc|hc
     ·exact h1' c hc
     ·exact ho c hc
    ·refine⟨by rw[cd _ _ _ (by simp;omega)];simp[hlen],.inr ⟨g,cap,_,by simp,hB,setRow_heap w g cur _ _ _ hh,by simpa using hnc,hcm,?_,?_⟩⟩
     ·simp only[GA]
      rw[cd _ _ _ (by simp;omega)]
      simpa using hcs
     ·simp only[Fr]
      rw[←ht];apply E6;intro q;have hA:=da (cur.toList.take (es.length*k)) (i0*k+j) u.cells.toList (by simp;omega) q
      have hB':=da cur.toList (i0*k+j) u.cells.toList (by simp;omega) q
      rw[hA,El,El];by_cases hq:q<es.length*k
      ·rw[DZ hq,DZ hq]
       exact hB'
      ·rw[D5 hq,D5 hq,D5 (by simp;omega)]
    ·rw[hfs]
     exact eL (by rw[bG es hk];omega) hLu (by simpa using hL)
end
def kN(sg:List Box)(p:PV)(d:Nat):Option PV :=
 match p with
 |.bp id off=>some (.bp id (off+d))
 |.rp id n i j=>match sg[id]? with
  |some (.row false _ _ es _)=>if es.length=n then some (.rp id n i (j+d))else none
  |_=>none
 |.ip cs=>if d<=cs.length then some (.ip (cs.drop d))else none
 |_=>none
def dK(T:TypeId->TyI)(sg:List Box)(s:TypeId)(p:PV)(f:Nat):Option PV :=
 match (T s).d with
 |.struct fs=>match fs[f]? with
  |some (off,ft)=>if(T ft).size≠0∧(T ft).d.ok=true then kN sg p off else none
  |none=>none
 |_=>none
def dP(T:TypeId->TyI)(sg:List Box)(t:TypeId)(x i:PV):Option PV :=
 match i with
 |.int _ n=>match (T t).d with
  |.array len e=>if(T e).d.ok=true∧0<=n∧n<len then kN sg x (n.toNat*(T e).size)else none
  |.slice e=>match x with
   |.sl z es=>if z≠.n∧0<=n∧(T e).d.ok=true then match es[n.toNat]? with
    |some y=>if y.cells.length=(T e).size then some (.ip y.cells)else none
    |none=>none
    else none
   |.ms id m=>match sg[id]? with
    |some (.row false _ k es _)=>if es.length=m∧0<=n∧n<m∧k=(T e).size∧(T e).d.ok=true then some (.rp id m n.toNat 0)else none
    |_=>none
   |.pf id d m=>match sg[id]? with
    |some (.row false _ k es _)=>if es.length=m∧0<=n∧n<d∧k=(T e).size∧(T e).d.ok=true then some (.rp id m n.toNat 0)else none
    |_=>none
   |_=>none
  |_=>none
 |_=>none
def zD(i:TyI)(cs:List PV)(off:Nat):Option PV :=
 if i.d.agg then(if off+i.size<=cs.length then some (.agg ((cs.drop off).take i.size))else none)else cs[off]?
def BW(T:TypeId->TyI)(s:TypeId)(x:PV)(f:Nat):Option PV :=
 match (T s).d,x with
 |.struct fs,.agg cs=>match fs[f]? with
  |some (off,ft)=>if(T ft).d.ok=true then zD (T ft) cs off else none
  |none=>none
 |_,_=>none
def vl(T:TypeId->TyI)(t:TypeId)(x i:PV):Option PV :=
 match i with
 |.int _ n=>match (T t).d,x with
  |.array len e,.agg cs=>if(T e).d.ok=true∧0<=n∧n<len then zD (T e) cs (n.toNat*(T e).size)else none
  |.str,.str s=>if 0<=n then match s[n.toNat]? with
   |some b=>some (.int .u8 b.toNat)
   |none=>none
   else none
  |_,_=>none
 |_=>none
section
variable {P:Program} {T:TypeId->TyI} {G:Gh} {sg:List Box} {w:World}
theorem ry(hR:Rel G sg w){p p':PV}{u:Value}{d:Nat}(hp:Rep G p u)(h:kN sg p d=some p'):
 ∃g o,u=.pointer (some ⟨g,o,none⟩)∧Rep G p' (.pointer (some ⟨g,o+d,none⟩)):=by
 cases p <;> simp only[kN]at h <;> try (cases h;done)
 case bp id off =>
  cases h;cases hp with
  |bp hs=>exact⟨_,_,rfl,.bp hs⟩
 case rp id n i j =>
  split at h <;> try (cases h;done)
  rename_i e k es frz hb;split at h <;> cases h
  rename_i hn;cases hp with
  |rp hs hle ho hu =>
   have hok:=hR.box id _ _ hs hb;obtain⟨rfl,rfl,_⟩:=hok;obtain⟨g,cap,hv,rfl⟩:=hu hn.symm;exact⟨_,_,rfl,.rp hs hle rfl fun _=>⟨g,cap,hv,by rw[FF]⟩⟩
 case ip cs =>
  split at h <;> cases h
  cases hp with
  |ip us h1 hS hr =>
   refine⟨_,_,rfl,.ip (fun j=>us (d+j)) (fun c hc=>h1 c (Fc hc)) (fun j c hc=>?_) (fun j c hc=>?_)⟩
   ·rw[EU]at hc
    rw[FF];exact hS _ c hc
   ·rw[EU]at hc
    exact hr _ c hc
theorem rF(hT:TyT P T)(hR:Rel G sg w){s:TypeId}{p p':PV}{u:Value}{f:Nat}(hp:Rep G p u)(h:dK T sg s p f=some p'):
 ∃u',(Instr.fieldAt s u f).run P w=.ok u' w∧Rep G p' u':=by
 unfold dK at h;split at h <;> try (cases h;done)
 rename_i fs hd;split at h <;> try (cases h;done)
 rename_i off ft hf;split at h <;> try (cases h;done)
 rename_i hsz;obtain⟨fl,hu,rfl⟩:=kc (hT s (by rw[hd];rfl)) hd
 obtain⟨g,o,rfl,hr⟩:=ry hR hp h;simp only[Eh,EC]at hf;obtain⟨fd,hfd,he⟩:=hf;simp only[Prod.mk.injEq]at he;obtain⟨rfl,rfl⟩:=he;have hfl:fl[f]?=some fd:=by simpa using hfd
 refine⟨_,?_,hr⟩;simp[Instr.fieldAt,run_underlying hu,hfl,Instr.sureAddr,fieldPlace,g6 (hT fd.type hsz.2),hsz.1,gy]
theorem qA(hT:TyT P T)(hR:Rel G sg w){t:TypeId}{x i p':PV}{u iu:Value}(hx:Rep G x u)(hi:Rep G i iu)(h:dP T sg t x i=some p'):
 ∃u',(Instr.indexAt t u iu).run P w=.ok u' w∧Rep G p' u':=by
 unfold dP at h;split at h <;> try (cases h;done)
 rename_i k n;cases hi;split at h <;> try (cases h;done)
 ·rename_i len e hd
  split at h <;> try (cases h;done)
  rename_i hc;obtain⟨g,o,rfl,hr⟩:=ry hR hx h;have hu:=iq (hT t (by rw[hd];rfl)) hd
  refine⟨_,?_,hr⟩;simp[Instr.indexAt,asIntOf,run_underlying hu,Instr.sureAddr,hc.2.1,hc.2.2,g6 (hT e hc.1),gy]
 ·rename_i e hd
  have hu:=bB (hT t (by rw[hd];rfl)) hd
  split at h <;> try (cases h;done)
  ·rename_i z es
   split at h <;> try (cases h;done)
   rename_i hc;split at h <;> try (cases h;done)
   rename_i y hy;split at h <;> cases h
   rename_i hyk;cases hx with
   |nils=>exact absurd rfl hc.1
   |sl hz hf k' us hk h1 hcap hm hS hr hsp =>
    rename_i g off cap sp;have hlt:n.toNat<es.length:=(DR.1 hy).1;obtain rfl:=hsp (by omega)
    have hlt':n<(es.length:Int):=by omega
    have hkk:k'=(T e).size:=by rw[←hyk];exact(hk y (DU hy)).symm
    refine⟨.pointer (some ⟨g,off+n.toNat*(T e).size,none⟩),?_,.ip (fun j=>us (n.toNat*k'+j)) (fun c hcm=>h1 c (dq.2 ⟨y,DU hy,hcm⟩)) (fun j c hj=>?_) (fun j c hj=>?_)⟩
    ·simp[Instr.indexAt,asIntOf,run_underlying hu,hc.2.1,hlt',g6 (hT e hc.2.2),gy]
    ·have hjk:j<k':=by rw[hkk,←hyk];exact(DR.1 hj).1
     have:=it es hk n.toNat y hy j hjk
     rw[hj]at this;rw[←hkk,FF];exact hS _ c this
    ·have hjk:j<k':=by rw[hkk,←hyk];exact(DR.1 hj).1
     have:=it es hk n.toNat y hy j hjk
     rw[hj]at this;exact hr _ c this
  ·rename_i id m
   split at h <;> try (cases h;done)
   rename_i e' k' es frz hb;split at h <;> cases h
   rename_i hc;cases hx with
   |ms hs hle ho hv =>
    have hok:=hR.box id _ _ hs hb;obtain⟨rfl,rfl,hz,hk,h1,⟨us,how,hl,hr⟩,_⟩:=hok;obtain rfl:=hv hc.1.symm;obtain⟨g,cap,cur,rfl,hB,hh,hnc,hcm,hcs,ht⟩:=cG how (by intro e;rw[e]at hz;simp at hz)
    have hn1:=hc.2.1;have hn2:n<(es.length:Int):=by rw[hc.1];exact hc.2.2.1
    refine⟨.pointer (some ⟨g,n.toNat*(T e).size,none⟩),?_,.rp hs hle rfl fun _=>⟨g,cap,rfl,by rw[hc.2.2.2.1];simp⟩⟩
    simp[Instr.indexAt,asIntOf,run_underlying hu,hn1,hn2,g6 (hT e hc.2.2.2.2),gy]
  ·rename_i id d m
   split at h <;> try (cases h;done)
   rename_i e' k' es frz hb;split at h <;> cases h
   rename_i hc;cases hx with
   |pf hs hle ho hv =>
    have hok:=hR.box id _ _ hs hb;obtain⟨rfl,rfl,hz,hk,h1,⟨us,how,hl,hr⟩,_⟩:=hok;obtain⟨hdm,rfl⟩:=hv hc.1.symm;obtain⟨g,cap,cur,rfl,hB,hh,hnc,hcm,hcs,ht⟩:=cG how (by intro e;rw[e]at hz;simp at hz)
    have hn1:=hc.2.1;have hn2:n<(d:Int):=hc.2.2.1;refine⟨.pointer (some ⟨g,n.toNat*(T e).size,none⟩),?_,.rp hs hle rfl fun _=>⟨g,cap,rfl,by rw[hc.2.2.2.1];simp⟩⟩
    simp[preV,Instr.indexAt,asIntOf,run_underlying hu,hn1,hn2,g6 (hT e hc.2.2.2.2),gy]
theorem yx(hT:TyT P T){t:TypeId}(ht:(T t).d.ok=true){cs:List PV}{us:Array Value}{off:Nat}{v:PV}(hl:us.size=cs.length)(h1:∀c∈cs,c.one=true)
 (hr:∀(j:Nat) (c:PV) (u:Value),cs[j]?=some c->us[j]?=some u->Rep G c u) (h:zD (T t) cs off=some v):∃u,(part t us off).run P w=.ok u w∧Rep G v u:=by
 unfold zD at h;split at h
 ·rename_i ha
  split at h <;> cases h
  rename_i hfit;refine⟨.agg (us.extract off (off+(T t).size)),by simp[part,jq (hT t ht),ha,g6 (hT t ht)],.agg ?_ (fun c hc=>h1 c (Fc (Ey hc))) fun j c u hc hu=>?_⟩
  ·simp;omega
  ·rw[El]at hc
   split at hc
   ·rw[EU]at hc
    rw[Array.getElem?_extract]at hu;split at hu
    ·exact hr _ c u hc hu
    ·cases hu
   ·cases hc
 ·rename_i ha
  have hlt:off<us.size:=by rw[hl];exact(DR.1 h).1
  exact⟨us[off],by simp[part,jq (hT t ht),ha,hlt],hr off v _ h (ED hlt)⟩
theorem field_ok(hT:TyT P T){s:TypeId}{x v:PV}{u:Value}{f:Nat}(hx:Rep G x u)(h:BW T s x f=some v):∃u',(Instr.field s u f).run P w=.ok u' w∧Rep G v u':=by
 unfold BW at h;split at h <;> try (cases h;done)
 rename_i fs cs hd;split at h <;> try (cases h;done)
 rename_i off ft hf;split at h <;> try (cases h;done)
 rename_i hft;obtain⟨fl,hu,rfl⟩:=kc (hT s (by rw[hd];rfl)) hd
 simp only[Eh,EC]at hf;obtain⟨fd,hfd,he⟩:=hf;simp only[Prod.mk.injEq]at he;obtain⟨rfl,rfl⟩:=he;have hfl:fl[f]?=some fd:=by simpa using hfd
 cases hx with
 |agg hl h1 hr =>
  obtain⟨u',hp,hr'⟩:=yx (w:=w) hT hft hl h1 hr h;exact⟨u',by simp[Instr.field,run_underlying hu,hfl,asAgg,hp],hr'⟩
theorem index_ok(hT:TyT P T){t:TypeId}{x i v:PV}{u iu:Value}(hx:Rep G x u)(hi:Rep G i iu)(h:vl T t x i=some v):∃u',(Instr.index t u iu).run P w=.ok u' w∧Rep G v u':=by
 unfold vl at h;split at h <;> try (cases h;done)
 rename_i k n;cases hi;split at h <;> try (cases h;done)
 ·rename_i len e cs hd
  split at h <;> try (cases h;done)
  rename_i hc;have hu:=iq (hT t (by rw[hd];rfl)) hd
  cases hx with
  |agg hl h1 hr =>
   obtain⟨u',hp,hr'⟩:=yx (w:=w) hT hc.1 hl h1 hr h;exact⟨u',by simp[Instr.index,asIntOf,run_underlying hu,hc.2.1,hc.2.2,g6 (hT e hc.1),hp],hr'⟩
 ·rename_i s hd
  split at h <;> try (cases h;done)
  rename_i hn;split at h <;> cases h
  rename_i b hb;have hu:=mf (hT t (by rw[hd];rfl)) hd
  cases hx with
  |str hl =>
   have hlt:n.toNat<s.length:=(DR.1 hb).1;refine⟨.int .u8 b.toNat,?_,.int ?_⟩
   ·have:(⟨s.toArray⟩:ByteArray)[n.toNat]?=some b:=by
     have e:s[n.toNat]=b:=by rw[DT hlt]at hb;exact Option.some.inj hb
     rw[getElem?_pos (⟨s.toArray⟩:ByteArray) n.toNat (by simpa[ByteArray.size]using hlt)]
     congr 1
    simp[Instr.index,asIntOf,run_underlying hu,hn,this]
   ·have:=b.toNat_lt
    simp[Lit.wf,IntKind.min,IntKind.max,IntKind.signed,IntKind.bits];omega
end
def fC(d:Option Nat)(sg:List Box)(v:PV):PV×List Box :=
 match v with
 |.ms id n=>match sg[id]? with
  |some (.row z e k es _)=>if es.length=n then(.sl (if z then .n else .a) es,sg.set id (.row z e k es true))else(v,sg)
  |_=>(v,sg)
 |.mp id=>match sg[id]? with
  |some (.map ks vs _)=>(.im ks vs,sg.set id (.map ks vs true))
  |_=>(v,sg)
 |.bp id off=>match d with
  |some m=>if m<=id then match sg[id]? with
   |some (.var cs _)=>(.ip (cs.drop off),sg.set id (.var cs true))
   |_=>(v,sg)
   else(v,sg)
  |none=>(v,sg)
 |_=>(v,sg)
def cO(f:List Box->PV->PV×List Box):List Box->List PV->List PV×List Box
 |sg,[]=>([],sg)
 |sg,v::vs =>
  let r:=f sg v
  let q:=cO f r.2 vs
  (r.1::q.1,q.2)
section
variable {G:Gh} {sg:List Box} {w:World}
def Gh.stable(G:Gh)(w:World)(g n:Nat):Gh:={ G with S:=fun g' o=>if g'=g∧o<n then w.cell? ⟨g,o,none⟩else G.S g' o }
theorem m6(hR:Rel G sg w)(g n:Nat)(hB:G.w0.heap.size<=g):G.le (G.stable w g n) where
 w0:=rfl
 S g' o v h:=by
  simp only[Gh.stable];split
  ·rename_i hc
   rw[←hc.1];exact hR.st _ _ _ h
  ·exact h
 SM _ _ h:=h
 old g' o hg:=by
  simp only[Gh.stable];rw[D5];intro hc;have:=hc.1
  omega
 oldM _ _:=rfl
 rho id s h:=⟨s,h,s.le_refl⟩
theorem rT(hR:Rel G sg w){id g n:Nat}{s:Slot}{b b':Box}(hs:G.rho[id]?=some s)(hb:sg[id]?=some b)(hg:s.block=some g)
 (hok:BoxOk (G.stable w g n) w s b'):Rel (G.stable w g n) (sg.set id b') w∧G.le (G.stable w g n):=by
 have hB:=((hR.box id s b hs hb).blk hg).1;have hle:=m6 hR g n hB;have hid:id<sg.length:=(DR.1 hb).1;refine⟨⟨hR.below,by simpa[Gh.stable]using hR.len,?_,hR.inj,?_,hR.stM,hR.dfr,hR.tab⟩,hle⟩
 ·intro j t c ht hc
  by_cases hj:id=j
  ·subst hj
   rw[D4 hid]at hc;cases hc;have:t=s:=by
    have e:G.rho[id]?=some t:=ht;rw[hs]at e;exact(Option.some.inj e).symm
   subst this;exact hok
  ·rw[D8 hj]at hc
   have hbx:=hR.box j t c ht hc;refine hbx.keep (DS _) (fun _ _ r=>r.mono hle) rfl (fun _ _=>rfl) (fun g' hg' o e=>?_) (fun _ _ e=>e) (fun _ e=>e)
   simp only[Gh.stable];rw[D5]
   ·exact e
   ·rintro⟨rfl,_⟩
    exact hR.inj id j s t g' hj hs ht hg hg'
 ·intro g' o v h
  simp only[Gh.stable]at h;split at h
  ·rename_i hc
   rw[hc.1];exact h
  ·exact hR.st _ _ _ h
theorem gp(hR:Rel G sg w)(d:Option Nat){v:PV}{u:Value}(hv:Rep G v u):
 ∃G',Rel G' (fC d sg v).2 w∧G.le G'∧G'.dfr=G.dfr∧Rep G' (fC d sg v).1 u∧((fC d sg v).1.one=v.one∧(fC d sg v).1.ag=v.ag)∧(fC d sg v).2.length=sg.length:=by
 have same:fC d sg v=(v,sg)->∃G',Rel G' (fC d sg v).2 w∧G.le G'∧G'.dfr=G.dfr∧Rep G' (fC d sg v).1 u∧((fC d sg v).1.one=v.one∧(fC d sg v).1.ag=v.ag)∧(fC d sg v).2.length=sg.length:=by
  intro e;rw[e];exact⟨G,hR,G.le_refl,rfl,hv,⟨rfl,rfl⟩,rfl⟩
 cases v <;> try exact same rfl
 case ms id n =>
  by_cases hcond:∃z e k es frz,sg[id]?=some (.row z e k es frz)∧es.length=n
  case neg =>
   refine same ?_;simp only[fC];split
   ·split
    ·exact absurd ⟨_,_,_,_,_,‹_›,‹_›⟩ hcond
    ·rfl
   ·rfl
  obtain⟨z,e,k,es,frz,hb,hn⟩:=hcond;clear same;simp only[fC,hb,DZ hn];cases hv with
  |ms hs hle ho hu =>
   have hok:=hR.box id _ _ hs hb;obtain⟨rfl,rfl,hz,hk,h1,⟨us,how,hL⟩,hS⟩:=hok;have hu:=hu hn.symm;subst hu;cases z with
   |true =>
    obtain rfl:=hz.1 rfl;have hn0:es.length=0:=by
     rcases how.2 with ⟨_,h⟩|⟨g,cap,cur,h,_⟩
     ·exact h
     ·cases h
    have hes:es=[]:=EB hn0;subst hes;refine⟨G,?_,G.le_refl,rfl,.nils,⟨rfl,rfl⟩,by simp⟩
    have hset:=cn hs;have hid:id<sg.length:=(DR.1 hb).1;refine⟨hR.below,by simpa using hR.len,?_,hR.inj,hR.st,hR.stM,hR.dfr,hR.tab⟩
    intro j t c ht hc;by_cases hj:id=j
    ·subst hj
     rw[D4 hid]at hc;cases hc;rw[hs]at ht;cases ht;exact⟨rfl,rfl,hz,hk,h1,⟨us,how,hL⟩,fun g hg=>by cases hg⟩
    ·rw[D8 hj]at hc
     exact hR.box j t c ht hc
   |false =>
    obtain⟨g,cap,cur,rfl,hB,hh,hnc,hcm,hcs,ht⟩:=cG how (by intro e;rw[e]at hz;simp at hz)
    have hnk:es.length*k<=cur.size:=by rw[hcs];exact E7 _ hnc
    have hlen:us.length=es.length*k:=how.1;have hle':=m6 hR g (es.length*k) hB;have hfz:=rT (n:=es.length*k) hR hs hb rfl (b':=.row false e k es true) (by
     refine⟨rfl,rfl,hz,hk,h1,⟨us,how,RepL.mono hle' hL⟩,fun g' hg' o ho=>?_⟩
     cases hg';have ho:=ho.resolve_left (by simp)
     simp only[Gh.stable];rw[D5 (by omega)]
     exact hS g rfl o (.inr ho))
    refine⟨G.stable w g (es.length*k),hfz.1,hfz.2,rfl,?_,⟨rfl,rfl⟩,by simp⟩
    have hcell:∀j,j<es.length*k->(G.stable w g (es.length*k)).S g (0+j)=us[j]?:=by
     intro j hj;simp only[Gh.stable,EG];rw[DZ (by first|exact⟨rfl,hj⟩|exact⟨trivial,hj⟩),cK hh,←ht,El,DZ hj,Fw]
    have hfl:=bG es hk;refine Rep.sl (z:=.a) (by simp) (by simp) k (fun j=>us.getD j Go.undef) hk h1 hnc hcm (fun j c hc=>?_) (fun j c hc=>?_) (fun _=>rfl)
    ·have hj:j<es.length*k:=by rw[←hfl];exact(DR.1 hc).1
     rw[hcell j hj,Ep,DT (by omega)]
     rfl
    ·have hj:j<es.length*k:=by rw[←hfl];exact(DR.1 hc).1
     have hj':j<us.length:=by omega
     rw[Ep,DT hj'];exact(hL.2 j c us[j] hc (by simp[DT hj'])).mono hle'
 case mp id =>
  by_cases hcond:∃ks vs frz,sg[id]?=some (.map ks vs frz)
  case neg =>
   refine same ?_;simp only[fC];split
   ·exact absurd ⟨_,_,_,‹_›⟩ hcond
   ·rfl
  obtain⟨ks,vs,frz,hb⟩:=hcond;clear same;simp only[fC,hb];cases hv with
  |mp hs =>
   rename_i g;have hok:=hR.box id _ _ hs hb;obtain⟨hB,hM,es,c,ls,hh,hp,hk,hv,hrk,hrv,hbo⟩:=hok;have hle:G.le { G with SM:=fun g'=>if g'=g then some (es,c)else G.SM g' }:=by
    refine⟨rfl,fun _ _ _ h=>h,fun g' v h=>?_,fun _ _ _=>rfl,fun g' hg=>?_,fun id s h=>⟨s,h,s.le_refl⟩⟩
    ·dsimp only
     split
     ·rename_i e
      subst e;have:=hR.stM _ _ _ h
      rw[hh]at this;cases this;rfl
     ·exact h
    ·dsimp only
     rw[D5 (by omega)]
   have hid:id<sg.length:=(DR.1 hb).1;refine⟨{ G with SM:=fun g'=>if g'=g then some (es,c)else G.SM g' },⟨hR.below,by simpa using hR.len,?_,hR.inj,hR.st,?_,hR.dfr,hR.tab⟩,hle,rfl,?_,⟨rfl,rfl⟩,by simp⟩
   ·intro j t b ht hc
    by_cases hj:id=j
    ·subst hj
     rw[D4 hid]at hc;cases hc;have:t=.blk g:=by
      have e:G.rho[id]?=some t:=ht;rw[hs]at e;exact(Option.some.inj e).symm
     subst this;exact⟨hB,(by simp),es,c,ls,hh,hp,hk,hv,fun j e k a b=>(hrk j e k a b).mono hle,fun j e k a b=>(hrv j e k a b).mono hle,hbo⟩
    ·rw[D8 hj]at hc
     have hbx:=hR.box j t b ht hc;refine hbx.keep (DS _) (fun _ _ r=>r.mono hle) rfl (fun _ _=>rfl) (fun _ _ _ e=>e) (fun g' hg' e=>?_) (fun _ e=>e)
     dsimp only;rw[D5]
     ·exact e
     ·rintro rfl
      exact hR.inj id j _ t g' hj hs ht rfl hg'
   ·intro g' es' c' h
    dsimp only at h;split at h
    ·rename_i e
     subst e;cases h;exact hh
    ·exact hR.stM _ _ _ h
   ·exact .im (es:=es) (c:=c) (ls:=ls) (by simp) hp hk hv (fun j e k a b=>(hrk j e k a b).mono hle) (fun j e k a b=>(hrv j e k a b).mono hle)
 case bp id off =>
  by_cases hcond:∃m cs frz,d=some m∧m<=id∧sg[id]?=some (.var cs frz)
  case neg =>
   refine same ?_;simp only[fC];split
   ·split
    ·split
     ·exact absurd ⟨_,_,_,rfl,‹_›,‹_›⟩ hcond
     ·rfl
    ·rfl
   ·rfl
  obtain⟨m,cs,frz,rfl,hm,hb⟩:=hcond;clear same;simp only[fC,DZ hm,hb];cases hv with
  |bp hs =>
   rename_i g;have hok:=hR.box id _ _ hs hb;obtain⟨hB,⟨us,T,hh,hL⟩,h1,hS⟩:=hok;have hle':=m6 hR g cs.length hB;have hul:us.size=cs.length:=hL.1;have hfz:=rT (n:=cs.length) hR hs hb rfl (b':=.var cs true) (by
    refine⟨hB,⟨us,T,hh,RepL.mono hle' hL⟩,h1,fun o ho=>?_⟩
    have ho:=ho.resolve_left (by simp)
    simp only[Gh.stable];rw[D5 (by omega)]
    exact hS o (.inr ho))
   refine⟨G.stable w g cs.length,hfz.1,hfz.2,rfl,?_,⟨rfl,rfl⟩,by simp⟩
   refine .ip (fun j=>us.getD (off+j) Go.undef) (fun c hc=>h1 c (Fc hc)) (fun j c hc=>?_) (fun j c hc=>?_)
   ·rw[EU]at hc
    have hj:off+j<cs.length:=(DR.1 hc).1;simp only[Gh.stable];rw[DZ (by first|exact⟨rfl,hj⟩|exact⟨trivial,hj⟩),cK hh,EH,ED (by omega)]
    rfl
   ·rw[EU]at hc
    have hj:off+j<cs.length:=(DR.1 hc).1;rw[EH,ED (by omega:off+j<us.size)]
    exact(hL.2 _ c _ hc (ED (by omega))).mono hle'
theorem fk(f:List Box->PV->PV×List Box)
 (hf:∀{G:Gh} {sg:List Box} {v:PV} {u:Value},Rel G sg w->Rep G v u->∃G',Rel G' (f sg v).2 w∧G.le G'∧G'.dfr=G.dfr∧Rep G' (f sg v).1 u∧((f sg v).1.one=v.one∧(f sg v).1.ag=v.ag)∧(f sg v).2.length=sg.length) :
 ∀{G:Gh} {sg:List Box} {vs:List PV} {us:List Value},Rel G sg w->us.length=vs.length->(∀(j:Nat) (c:PV) (u:Value),vs[j]?=some c->us[j]?=some u->Rep G c u) ->
  ∃G',Rel G' (cO f sg vs).2 w∧G.le G'∧G'.dfr=G.dfr∧(cO f sg vs).1.length=vs.length∧(∀(j:Nat) (c:PV) (u:Value),(cO f sg vs).1[j]?=some c->us[j]?=some u->Rep G' c u) ∧
   ((∀c∈vs,c.one=true)->∀c∈(cO f sg vs).1,c.one=true)∧(cO f sg vs).2.length=sg.length
 |G,sg,[],us,hR,hl,hr=>⟨G,hR,G.le_refl,rfl,rfl,fun j c u h=>by simp[cO]at h,fun _ c h=>by simp[cO]at h,rfl⟩
 |G,sg,v::vs,[],hR,hl,hr=>by simp at hl
 |G,sg,v::vs,u::us,hR,hl,hr=>by
  obtain⟨G1,a1,a2,a3,a4,a5,a6⟩:=hf hR (hr 0 v u rfl rfl);obtain⟨G2,b1,b2,b3,b4,b5,b6,b7⟩:=fk f hf (vs:=vs) (us:=us) a1 (by simpa using hl) (fun j c u hc hu=>(hr (j+1) c u (by simpa using hc) (by simpa using hu)).mono a2)
  refine⟨G2,b1,Gh.le_trans a2 b2,b3.trans a3,by simp[cO,b4],fun j c x hc hx=>?_,fun h c hc=>?_,by simp only[cO];rw[b7,a6]⟩
  ·cases j with
   |zero =>
    simp[cO]at hc hx;subst hc;subst hx;exact a4.mono b2
   |succ j =>
    simp[cO]at hc hx;exact b5 j c x hc hx
  ·simp only[cO,D6]at hc
   rcases hc with rfl|hc
   ·rw[a5.1];exact h v (DV ..)
   ·exact b6 (fun c hc=>h c (DW _ hc)) c hc
end
def vC(place:Nat->Option (Nat×Nat)):List PV->List (Nat×PV)->Option (List PV)
 |cells,[]=>some cells
 |cells,(i,v)::rest=>match place i with
  |some (off,size)=>if v.cells.length=size∧off+size<=cells.length∧(v.ag||v.one)=true then vC place (aW cells off v.cells) rest else none
  |none=>none
def vA(T:TypeId->TyI)(fs:List (Nat×TypeId))(i:Nat):Option (Nat×Nat) :=
 match fs[i]? with
 |some (off,ft)=>some (off,(T ft).size)
 |none=>none
def Dh(T:TypeId->TyI)(t:TypeId)(parts:List (Nat×PV)):Option PV :=
 match (T t).d with
 |.struct fs=>if(fs.all fun p=>(T p.2).d.ok)=true then match vC (vA T fs) (T t).zero parts with
  |some cs=>some (.agg cs)
  |none=>none
  else none
 |.array _ e=>if(T e).d.ok=true then match vC (fun i=>some (i*(T e).size,(T e).size)) (T t).zero parts with
  |some cs=>some (.agg cs)
  |none=>none
  else none
 |_=>none
def TyI.zeroE(i:TyI):PV:=if i.d.agg then .agg i.zero else i.zero.headD .nilp
def qR(size:Nat):List PV->List (Nat×PV)->Option (List PV)
 |es,[]=>some es
 |es,(i,v)::rest=>if i<es.length∧v.cells.length=size∧(v.ag||v.one)=true then qR size (es.set i v) rest else none
def cL(T:TypeId->TyI)(t:TypeId)(len:Nat)(parts:List (Nat×PV)):Option PV :=
 match (T t).d with
 |.slice e=>if(T e).d.ok=true∧0<(T e).size∧len*(T e).size<=16777216∧len<=maxLen then match qR (T e).size (List.replicate len (T e).zeroE) parts with
  |some es=>some (.sl .f es)
  |none=>none
  else none
 |_=>none
section
variable {P:Program} {T:TypeId->TyI} {G:Gh} {sg:List Box} {w:World}
theorem sB{α:Type}(l:List α)(o:Nat)(v:α)(rest:List α)(h:o+(rest.length+1)<=l.length):aW (l.set o v) (o+1) rest=aW l o (v::rest):=by
 apply E6;intro j;rw[da _ _ _ (by simp;omega),da _ _ _ (by simpa using h)]
 by_cases h1:j=o
 ·subst h1
  rw[D5 (by omega),DZ (by simp),D4 (by omega)]
  simp
 ·by_cases h2:o+1<=j∧j<o+1+rest.length
  ·rw[DZ h2,DZ (by simp;omega),show j-o=(j-(o+1))+1 by omega,FB]
  ·rw[D5 h2,D5 (by simp;omega),D8 (by omega)]
theorem vW{α:Type}(l:List α)(o:Nat):aW l o []=l:=by simp[aW]
theorem il:∀(us:List Value) (k off:Nat) (cur:Array Value),off+k+us.length<=cur.size ->
 ((us.zipIdx k).foldl (fun cs (c:Value×Nat)=>cs.setIfInBounds (off+c.2) c.1) cur).toList=aW cur.toList (off+k) us
 |[],k,off,cur,_=>by simp[vW]
 |u::us,k,off,cur,h=>by
  simp only[List.zipIdx_cons,EI];rw[il us (k+1) off _ (by simp at h ⊢;omega)]
  rw[Array.toList_setIfInBounds,←FF];exact sB _ _ _ _ (by simp at h ⊢;omega)
theorem tq{place:Nat->Option (Nat×Nat)}:∀{parts:List (Nat×PV)} {vals:List (Nat×Value)} {cs:List PV} {us:Array Value} {cs':List PV},vC place cs parts=some cs' ->
 vals.length=parts.length->(∀(j:Nat) (p:Nat×PV) (q:Nat×Value),parts[j]?=some p->vals[j]?=some q->p.1=q.1∧Rep G p.2 q.2)->RepL G cs us->(∀c∈cs,c.one=true) ->
 ∃us',Instr.fill place us vals=some us'∧RepL G cs' us'∧∀c∈cs',c.one=true
 |[],[],cs,us,cs',h,_,_,hL,h1=>by cases h;exact⟨us,rfl,hL,h1⟩
 |[],_::_,cs,us,cs',h,hl,_,_,_=>by simp at hl
 |_::_,[],cs,us,cs',h,hl,_,_,_=>by simp at hl
 |(i,v)::parts,(i',u)::vals,cs,us,cs',h,hl,hr,hL,h1=>by
  obtain⟨he,hv⟩:=hr 0 _ _ rfl rfl;dsimp only at he hv;subst he;unfold vC at h;split at h <;> try (cases h;done)
  rename_i off size hp;split at h <;> try (cases h;done)
  rename_i hc;obtain⟨hc1,hc2,hc3⟩:=hc;obtain⟨hLv,hov⟩:=iC hv (by simpa using hc3)
  have hus:u.cells.size=v.cells.length:=hLv.1;have hcs:us.size=cs.length:=hL.1;have hfold:(u.cells.zipIdx.foldl (fun cs (c:Value×Nat)=>cs.setIfInBounds (off+c.2) c.1) us)=(aW us.toList off u.cells.toList).toArray:=by
   apply Array.ext';have:=il u.cells.toList 0 off us (by simp;omega)
   simp only[Fz]at this;rw[←this];rw[←GX]
   congr 1
   congr 1
   simp
  have hL':RepL G (aW cs off v.cells) (aW us.toList off u.cells.toList).toArray:=eL (by omega) (by simpa using hL) (by simpa using hLv)
  obtain⟨us',h2,h3,h4⟩:=tq (us:=(aW us.toList off u.cells.toList).toArray) h (by simpa using hl) (fun j p q hp hq=>hr (j+1) p q (by simpa using hp) (by simpa using hq)) hL' (fun c hc=>by
   rcases eF hc with hc|hc
   ·exact h1 c hc
   ·exact hov c hc)
  refine⟨us',?_,h3,h4⟩;simp only[Instr.fill,hp];rw[D5 (by simp;omega)]
  rw[←h2,←hfold]
theorem jA{α β:Type}(g:α->Sem β)(r:α->β)(w:World):∀(l:List α),(∀x∈l,(g x).run P w=.ok (r x) w)->(l.mapM g).run P w=.ok (l.map r) w
 |[],_=>rfl
 |x::l,h=>by
  rw[Gy,Sem.run_bind,h x (DV ..),Result.andThen_ok,Sem.run_bind,jA g r w l fun y hy=>h y (DW _ hy)]
  rfl
theorem nm{α β:Type}(g:α->Sem β)(r:α->β)(w:World)(l:Array α)(h:∀x∈l.toList,(g x).run P w=.ok (r x) w):(l.mapM g).run P w=.ok (l.toList.map r).toArray w:=by
 rw[Array.mapM_eq_mapM_toList,Sem.run_map,jA g r w l.toList h];rfl
theorem build_ok(hT:TyT P T){t:TypeId}{parts:List (Nat×PV)}{vals:Array (Nat×Value)}{v:PV}(hl:vals.size=parts.length)
 (hr:∀(j:Nat) (p:Nat×PV) (q:Nat×Value),parts[j]?=some p->vals[j]?=some q->p.1=q.1∧Rep G p.2 q.2) (h:Dh T t parts=some v) :
 ∃u,(Instr.build t vals).run P w=.ok u w∧Rep G v u:=by
 unfold Dh at h;split at h <;> try (cases h;done)
 ·rename_i fs hd
  have hok:(T t).d.ok=true:=by rw[hd];rfl
  obtain⟨f,z,ud,h1,h2,h3,h4,h5,h6,h7,h8,h9,h10,_⟩:=(hT t hok).ex;obtain⟨fl,hu,hfs⟩:=kc (hT t hok) hd;split at h <;> try (cases h;done)
  rename_i hall;split at h <;> cases h
  rename_i cs hf;obtain⟨us',e1,e2,e3⟩:=tq (G:=G) (vals:=vals.toList) (us:=z.cells) hf (by simpa using hl) (fun j p q hp hq=>hr j p q hp (by simpa using hq)) (h8 G) h9
  refine⟨.agg us',?_,.agg e2.1 e3 e2.2⟩;have hpl:(fun i=>(fl.toList.map fun f=>(f.offset,(T f.type).size)).toArray[i]?)=vA T fs:=by
   funext i
   rw[hfs];simp only[vA,Eh,Gg];cases fl.toList[i]? <;> rfl
  have hall':(fl.toList.all fun f=>(T f.type).d.ok)=true:=by rw[hfs]at hall;simpa[FS]using hall
  have hm:=nm (P:=P) (fun f:Field=>(do pure (f.offset,←sizeOf f.type):Sem (Nat×Nat))) (fun f=>(f.offset,(T f.type).size)) w fl (fun f hf=>by
   have:=D7.1 hall' f hf
   simp[g6 (hT f.type this)])
  simp only[Instr.build,Sem.run_bind,zeroValue,typeInfo,h1,h4,run_program,Result.andThen_ok,Sem.run_pure,run_underlying hu,hm];rw[hpl,e1];rfl
 ·rename_i n e hd
  have hok:(T t).d.ok=true:=by rw[hd];rfl
  obtain⟨f,z,ud,h1,h2,h3,h4,h5,h6,h7,h8,h9,h10,_⟩:=(hT t hok).ex;have hu:=iq (hT t hok) hd;split at h <;> try (cases h;done)
  rename_i he;split at h <;> cases h
  rename_i cs hf;obtain⟨us',e1,e2,e3⟩:=tq (G:=G) (vals:=vals.toList) (us:=z.cells) hf (by simpa using hl) (fun j p q hp hq=>hr j p q hp (by simpa using hq)) (h8 G) h9
  refine⟨.agg us',?_,.agg e2.1 e3 e2.2⟩;simp only[Instr.build,Sem.run_bind,zeroValue,typeInfo,h1,h4,run_program,Result.andThen_ok,Sem.run_pure,run_underlying hu,g6 (hT e he)];rw[e1];rfl
def Gh.lay(G:Gh)(g:Nat)(us:Array Value):Gh:={ G with S:=fun g' o=>if g'=g then us[o]? else G.S g' o }
theorem lay_ok(hR:Rel G sg w)(us:Array Value)(T:TypeId):Rel (G.lay w.heap.size us) sg (w.alloc (.cells us T))∧G.le (G.lay w.heap.size us):=by
 have hR':=hR.keep (c8 w (.cells us T));have hfr:=hR.fresh w.heap.size (DS _);have hle:G.le (G.lay w.heap.size us):=by
  refine⟨rfl,fun g o v h=>?_,fun _ _ h=>h,fun g o hg=>?_,fun _ _=>rfl,fun id s h=>⟨s,h,s.le_refl⟩⟩
  ·simp only[Gh.lay]
   rw[D5]
   ·exact h
   ·rintro rfl
    rw[hfr.1 o]at h;cases h
  ·simp only[Gh.lay]
   rw[D5];have:=hR.base_le
   omega
 refine⟨⟨hR'.below,hR'.len,?_,hR'.inj,?_,hR'.stM,hR'.dfr,hR.tab⟩,hle⟩
 ·intro id s b hs hb
  have hbx:=hR'.box id s b hs hb;have hbx0:=hR.box id s b hs hb;refine hbx.keep (DS _) (fun _ _ r=>r.mono hle) rfl (fun _ _=>rfl) (fun g hg o e=>?_) (fun _ _ e=>e) (fun _ e=>e)
  simp only[Gh.lay];rw[D5]
  ·exact e
  ·rintro rfl
   have:=(hbx0.blk hg).2
   omega
 ·intro g o v h
  simp only[Gh.lay]at h;split at h
  ·rename_i e
   subst e;rw[cK (heap_alloc_new w _)];exact h
  ·exact hR'.st g o v h
theorem tB{t:TypeId}{i:TyI}(hi:TyOk P t i)(h0:0<i.size):i.zeroE.cells=i.zero∧i.zero.length=i.size∧(i.zeroE.ag||i.zeroE.one)=true:=by
 obtain⟨f,z,ud,h1,h2,h3,h4,h5,h6,h7,h8,h9,h10,_⟩:=hi.ex;have hl:i.zero.length=i.size:=by
  have:=(h8 ⟨default,fun _ _=>none,fun _=>none,[],[]⟩).1
  omega
 refine⟨?_,hl,?_⟩
 ·unfold TyI.zeroE
  split
  ·rfl
  ·rename_i ha
   have hz1:z.cells.size=1:=by
    rw[h10]at ha;cases z <;> simp[vAgg]at ha <;> rfl
   have:i.zero.length=1:=by omega
   obtain⟨c,hc⟩:=GD.1 this;have:=h9 c (by rw[hc];simp)
   rw[hc];cases c <;> first|rfl|(simp[PV.one]at this)
 ·unfold TyI.zeroE
  split
  ·simp[PV.ag]
  ·cases hz:i.zero with
   |nil=>simp[hz]at hl;omega
   |cons c cs =>
    have:=h9 c (by rw[hz];simp)
    simp[this]
theorem nb(k n:Nat)(x:PV)(hx:x.cells.length=k)(hk:0<k)(j:Nat)(hj:j<n*k):(flat (List.replicate n x))[j]?=x.cells[j%k]?:=by
 have hi:j / k<n:=(Nat.div_lt_iff_lt_mul hk).2 hj;have:=it (k:=k) (List.replicate n x) (fun e he=>by rw[Gq he];exact hx) (j / k) x (by simp[hi]) (j%k) (Nat.mod_lt _ hk)
 rw[←this]
 congr 1
 rw[Gr];exact(Nat.div_add_mod j k).symm
theorem jg{t:TypeId}{i:TyI}(hi:TyOk P t i)(h0:0<i.size)(n:Nat){z:Value}(hz:∀G,RepL G i.zero z.cells)(hzs:z.cells.size=i.size)(G:Gh):
 RepL G (flat (List.replicate n i.zeroE)) ((Array.range (n*i.size)).map (z.cells[·%z.cells.size]!))∧(∀c∈flat (List.replicate n i.zeroE),c.one=true)∧∀e∈List.replicate n i.zeroE,e.cells.length=i.size:=by
 obtain⟨e1,e2,e3⟩:=tB hi h0;obtain⟨f,z',ud,h1,h2,h3,h4,h5,h6,h7,h8,h9,h10,_⟩:=hi.ex;have hk:∀e∈List.replicate n i.zeroE,e.cells.length=i.size:=fun e he=>by rw[Gq he,e1,e2]
 refine⟨⟨by simp[bG _ hk],fun j c u hc hu=>?_⟩,fun c hc=>?_,hk⟩
 ·have hj:j<n*i.size:=by
   have:=(DR.1 hc).1
   rw[bG _ hk]at this;simpa using this
  rw[nb i.size n i.zeroE (by rw[e1,e2]) h0 j hj,e1]at hc
  simp only[Array.getElem?_map,Array.getElem?_range,hj,DZ,F3,Option.some.injEq]at hu;have hm:j%i.size<z.cells.size:=by rw[hzs];exact Nat.mod_lt _ h0
  refine(hz G).2 _ c u hc ?_;rw[←hu,hzs];rw[getElem!_pos z.cells (j%i.size) hm];exact ED hm
 ·obtain⟨e,he,hce⟩:=dq.1 hc
  rw[Gq he,e1]at hce;exact h9 c hce
theorem my{k:Nat}(hk0:0<k):∀{parts:List (Nat×PV)} {vals:List (Nat×Value)} {es es':List PV} {us:Array Value},qR k es parts=some es' ->
 vals.length=parts.length->(∀(j:Nat) (p:Nat×PV) (q:Nat×Value),parts[j]?=some p->vals[j]?=some q->p.1=q.1∧Rep G p.2 q.2)->RepL G (flat es) us->(∀c∈flat es,c.one=true)->(∀e∈es,e.cells.length=k) ->
 ∃us',Instr.fill (fun i=>some (i*k,k)) us vals=some us'∧RepL G (flat es') us'∧(∀c∈flat es',c.one=true)∧(∀e∈es',e.cells.length=k)∧es'.length=es.length
 |[],[],es,es',us,h,_,_,hL,h1,hk=>by cases h;exact⟨us,rfl,hL,h1,hk,rfl⟩
 |[],_::_,es,es',us,h,hl,_,_,_,_=>by simp at hl
 |_::_,[],es,es',us,h,hl,_,_,_,_=>by simp at hl
 |(i,v)::parts,(i',u)::vals,es,es',us,h,hl,hr,hL,h1,hk=>by
  obtain⟨he,hv⟩:=hr 0 _ _ rfl rfl;dsimp only at he hv;subst he;unfold qR at h;split at h <;> try (cases h;done)
  rename_i hc;obtain⟨hc1,hc2,hc3⟩:=hc;obtain⟨hLv,hov⟩:=iC hv (by simpa using hc3)
  have hus:u.cells.size=v.cells.length:=hLv.1;have hcs:us.size=(flat es).length:=hL.1;have hfl:=bG es hk;have hb:i*k+k<=es.length*k:=by
   have:(i+1)*k<=es.length*k:=E7 _ hc1
   rw[E4]at this;omega
  have hx:es[i]?=some es[i]:=DT hc1;have hfs:=oX es i es[i] v hk hx 0 v.cells (by omega) (by
   have h2:=hk _ (E5 hc1);simp only[aW,List.take_zero,EA,EG];rw[Ef (by omega),Er])
  simp only[Fz]at hfs;have hfold:(u.cells.zipIdx.foldl (fun cs (c:Value×Nat)=>cs.setIfInBounds (i*k+c.2) c.1) us)=(aW us.toList (i*k) u.cells.toList).toArray:=by
   apply Array.ext';have:=il u.cells.toList 0 (i*k) us (by simp;omega)
   simp only[Fz]at this;rw[←this];rw[←GX]
   congr 1
   congr 1
   simp
  have hL':RepL G (flat (es.set i v)) (aW us.toList (i*k) u.cells.toList).toArray:=by
   rw[hfs];exact eL (by omega) (by simpa using hL) (by simpa using hLv)
  obtain⟨us',h2,h3,h4,h5,h6⟩:=my hk0 (us:=(aW us.toList (i*k) u.cells.toList).toArray) h (by simpa using hl) (fun j p q hp hq=>hr (j+1) p q (by simpa using hp) (by simpa using hq)) hL' (fun c hc=>by
   rw[hfs]at hc;rcases eF hc with hc|hc
   ·exact h1 c hc
   ·exact hov c hc) (fun e he=>by
    rcases FO he with he|rfl
    ·exact hk e he
    ·exact hc2)
  refine⟨us',?_,h3,h4,h5,by simpa using h6⟩
  simp only[Instr.fill];rw[D5 (by simp;omega)]
  rw[←h2,←hfold]
theorem MA(hT:TyT P T)(hR:Rel G sg w){t:TypeId}{len:Nat}{parts:List (Nat×PV)}{vals:Array (Nat×Value)}{v:PV}(hl:vals.size=parts.length)
 (hr:∀(j:Nat) (p:Nat×PV) (q:Nat×Value),parts[j]?=some p->vals[j]?=some q->p.1=q.1∧Rep G p.2 q.2) (h:cL T t len parts=some v) :
 ∃u w' G',(Instr.buildSlice t len vals).run P w=.ok u w'∧Rel G' sg w'∧G.le G'∧G'.dfr=G.dfr∧Rep G' v u:=by
 unfold cL at h;split at h <;> try (cases h;done)
 rename_i e hd;split at h <;> try (cases h;done)
 rename_i hc;obtain⟨he,h0,hlen,hml⟩:=hc;split at h <;> cases h
 rename_i es hs;have hu:=bB (hT t (by rw[hd];rfl)) hd
 obtain⟨f,z,ud,h1,h2,h3,h4,h5,h6,h7,h8,h9,h10,_⟩:=(hT e he).ex;obtain⟨z1,z2,z3⟩:=jg (hT e he) h0 len h8 h5 G;obtain⟨us',e1,e2,e3,e4,e5⟩:=my h0 (vals:=vals.toList) hs (by simpa using hl) (fun j p q hp hq=>hr j p q hp (by simpa using hq)) z1 z2 z3
 obtain⟨r1,r2⟩:=lay_ok hR us' e;have e5':es.length=len:=by simpa using e5
 refine⟨.slice (some ⟨w.heap.size,0,none⟩) len len,_,G.lay w.heap.size us',?_,r1,r2,rfl,?_⟩
 ·by_cases hz:len*(T e).size=0
  ·have hz':len=0:=by
    rcases Nat.mul_eq_zero.1 hz with h|h
    ·exact h
    ·omega
   subst hz';have hes:es=[]:=EB e5';subst hes;simp only[Nat.zero_mul,show Array.range 0=#[]from rfl,Array.map_empty]at e1
   simp[Instr.buildSlice,run_underlying hu,g6 (hT e he),show Array.range 0=#[]from rfl,e1,newRow]
  ·simp only[Instr.buildSlice,Sem.run_bind,run_underlying hu,g6 (hT e he),Result.andThen_ok]
   rw[D5 (by omega),D5 hz]
   simp only[zeroValue,typeInfo,h1,h4,Sem.run_bind,run_program,Result.andThen_ok,Sem.run_pure,e1,newRow,run_newObj_alloc]
 ·rw[←e5']
  refine .sl (by simp) (fun _=>rfl) (T e).size (fun j=>us'.getD j Go.undef) e4 e3 (DS _) (by omega) (fun j c hc=>?_) (fun j c hc=>?_) (fun _=>rfl)
  ·have hj:j<us'.size:=by rw[e2.1];exact(DR.1 hc).1
   simp only[Gh.lay,EG];simp[hj]
  ·have hj:j<us'.size:=by rw[e2.1];exact(DR.1 hc).1
   have:=(e2.2 j c us'[j] hc (ED hj)).mono r2
   simpa[hj]using this
end
def tG(bytes n:Nat):Bool:=decide (n*bytes<=140737488355328)&&decide (n<=maxLen)
def rowX(sg:List Box)(x:PV):Option (List PV) :=
 match x with
 |.sl _ ys=>some ys
 |.ms id n=>match sg[id]? with
  |some (.row _ _ _ es _)=>if es.length=n then some es else none
  |_=>none
 |.pf id d n=>match sg[id]? with
  |some (.row _ _ _ es _)=>if es.length=n then some (es.take d)else none
  |_=>none
 |_=>none
def fA(T:TypeId->TyI)(sg:List Box)(fid:Nat)(t:TypeId)(s x:PV):Option (PV×Eff) :=
 match (T t).d with
 |.slice e =>
  if(T e).d.ok=true∧0<(T e).size then
   match rowX sg x with
   |some ys =>
    if ys.isEmpty=true then(match s with
     |.sl _ _=>some (s,none)
     |.ms id n=>match sg[id]? with
      |some (.row _ _ _ es _)=>if es.length=n then some (s,none)else none
      |_=>none
     |_=>none)
    else if(ys.all fun y=>y.cells.length==(T e).size)=true then
     (match s with
     |.sl .n _=>if tG (T e).bytes ys.length=true then some (.ms fid ys.length,some (fid,.row false e (T e).size ys false))else none
     |.sl .f es=>if tG (T e).bytes (es.length+ys.length)=true∧(es.all fun y=>y.cells.length==(T e).size)=true then some (.ms fid (es.length+ys.length),some (fid,.row false e (T e).size (es++ys) false))else none
     |.ms id n=>match sg[id]? with
      |some (.row _ e' k es frz)=>if es.length=n∧e'=e∧k=(T e).size∧tG (T e).bytes (n+ys.length)=true then some (.ms id (n+ys.length),some (id,.row false e k (es++ys) frz))else none
      |_=>none
     |_=>none)
    else none
   |_=>none
  else none
 |_=>none
def yA(T:TypeId->TyI)(sg:List Box)(e:TypeId)(id d m:Nat)(ys:List PV):Option (PV×Eff) :=
 match sg[id]? with
 |some (.row false e' k es false)=>if es.length=m∧e'=e∧k=(T e).size∧0<ys.length∧d+ys.length<=m then some (.pf id (d+ys.length) m,some (id,.row false e' k (aW es d ys) false))else none
 |_=>none
def ed(T:TypeId->TyI)(sg:List Box)(fid:Nat)(t:TypeId)(s x:PV):Option (PV×Eff) :=
 match s with
 |.pf id d m=>match sg[id]? with
  |some (.row _ _ _ es _)=>if es.length=m then
   (if d=m then(match fA T sg fid t (.ms id m) x with
    |some (.ms id2 n2,ef)=>some (.pf id2 n2 n2,ef)
    |_=>none)
   else match (T t).d with
    |.slice e=>if(T e).d.ok=true∧0<(T e).size then match rowX sg x with
     |some ys=>if ys.isEmpty=true then some (.pf id d m,none)else if(ys.all fun y=>y.cells.length==(T e).size)=true then yA T sg e id d m ys else none
     |none=>none
     else none
    |_=>none)
   else none
  |_=>none
 |s=>fA T sg fid t s x
def iI(T:TypeId->TyI)(fid:Nat)(t:TypeId)(l c:PV):Option (PV×Eff) :=
 match (T t).d,l,c with
 |.slice e,.int _ n,.int _ m =>
  if(T e).d.ok=true∧0<(T e).size∧n=m∧0<=n∧(T e).bytes*n.toNat<=281474976710656∧n.toNat<=maxLen then
   some (.ms fid n.toNat,some (fid,.row false e (T e).size (List.replicate n.toNat (T e).zeroE) false))
  else none
 |_,_,_=>none
def lenC(T:TypeId->TyI)(sg:List Box)(t:TypeId)(x:PV):Option PV :=
 match (T t).d,x with
 |.str,.str s=>some (.int .i64 s.length)
 |.slice _,.sl _ es=>some (.int .i64 es.length)
 |.slice _,.ms id n=>match sg[id]? with
  |some (.row _ _ _ es _)=>if es.length=n then some (.int .i64 n)else none
  |_=>none
 |.slice _,.pf id d n=>match sg[id]? with
  |some (.row _ _ _ es _)=>if es.length=n then some (.int .i64 d)else none
  |_=>none
 |.array n _,_=>if n<=maxLen then some (.int .i64 n)else none
 |.map _ _,.im ks _=>if ks.length<=maxLen then some (.int .i64 ks.length)else none
 |.map _ _,.mp id=>match sg[id]? with
  |some (.map ks _ _)=>if ks.length<=maxLen then some (.int .i64 ks.length)else none
  |_=>none
 |.map _ _,.nilm=>some (.int .i64 0)
 |_,_=>none
def cutC(len:Nat)(lo hi:Option PV):Option (Nat×Nat) :=
 match lo,hi with
 |none,none=>some (0,len)
 |some (.int _ l),none=>if 0<=l∧l<=len then some (l.toNat,len)else none
 |none,some (.int _ h)=>if 0<=h∧h<=len then some (0,h.toNat)else none
 |some (.int _ l),some (.int _ h)=>if 0<=l∧l<=h∧h<=len then some (l.toNat,h.toNat)else none
 |_,_=>none
def vf(T:TypeId->TyI)(t:TypeId)(x:PV)(lo hi mx:Option PV):Option PV :=
 match (T t).d,x,mx with
 |.str,.str s,none=>match cutC s.length lo hi with
  |some (l,h)=>some (.str ((s.drop l).take (h-l)))
  |none=>none
 |.slice e,.sl z es,none=>if(T e).d.ok=true∧(es.all fun y=>y.cells.length==(T e).size)=true then match cutC es.length lo hi with
  |some (l,h)=>some (.sl (if z=.n then .n else .a) ((es.drop l).take (h-l)))
  |none=>none
  else none
 |.slice e,.sl z _,some (.int _ m)=>match lo,hi with
  |none,some (.int _ h)=>if m=0∧h=0∧(T e).d.ok=true then some (.sl (if z=.n then .n else .f) [])else none
  |_,_=>none
 |_,_,_=>none
section
variable {P:Program} {T:TypeId->TyI} {G:Gh} {sg:List Box} {w:World}
theorem md{k:Nat}:∀(es:List PV),(∀e∈es,e.cells.length=k)->∀l,flat (es.drop l)=(flat es).drop (l*k)
 |[],_,l=>by simp[flat]
 |e::es,h,0=>by simp
 |e::es,h,l+1=>by
  have h0:=h e (DV ..);rw[List.drop_succ_cons,md es (fun x hx=>h x (DW _ hx)) l,bg,List.drop_append,Ef (show e.cells.length<=(l+1)*k by rw[h0,E4];omega),EA]
  congr 1
  rw[h0,E4];omega
theorem gV{k:Nat}:∀(es:List PV),(∀e∈es,e.cells.length=k)->∀l,flat (es.take l)=(flat es).take (l*k)
 |[],_,l=>by simp[flat]
 |e::es,h,0=>by simp[flat]
 |e::es,h,l+1=>by
  have h0:=h e (DV ..);rw[Lk,bg,bg,gV es (fun x hx=>h x (DW _ hx)) l,List.take_append,EQ (l:=e.cells) (by rw[h0,E4];omega)]
  congr 2
  rw[h0,E4];omega
theorem vd{w:World}{B n k:Nat}{e:TypeId}{v:Value}{us:List Value}(h:w.ownsRow B e k v n us):preV v n=v:=by
 rcases h.2 with ⟨rfl,rfl⟩|⟨g,cap,cur,rfl,_⟩ <;> rfl
theorem gh(hR:Rel G sg w){id d m:Nat}{u:Value}(hx:Rep G (.pf id d m) u){z frz:Bool}{e:TypeId}{k:Nat}{es:List PV}(hb:sg[id]?=some (.row z e k es frz))(hn:es.length=m):
 d<=m∧∃v us,G.rho[id]?=some (.row v m k)∧u=preV v d∧(z=true↔v=.slice none 0 0)∧(∀x∈es,x.cells.length=k)∧(∀c∈flat es,c.one=true)∧w.ownsRow G.w0.heap.size e k v m us∧RepL G (flat es) us.toArray ∧
  (∀g,v.ownBlock=some g->∀o,(frz=false∨m*k<=o)->G.S g o=none):=by
 cases hx with
 |pf hs hle ho hv =>
  obtain⟨rfl,rfl,hz,hk,h1,⟨us,how,hL⟩,hS⟩:=hR.box id _ _ hs hb;subst hn;obtain⟨hdm,rfl⟩:=hv rfl;exact⟨hdm,_,us,hs,rfl,hz,hk,h1,how,hL,hS⟩
theorem uY(hR:Rel G sg w){id m:Nat}{u:Value}(hx:Rep G (.pf id m m) u){z frz:Bool}{e:TypeId}{k:Nat}{es:List PV}(hb:sg[id]?=some (.row z e k es frz))(hn:es.length=m):Rep G (.ms id m) u:=by
 obtain⟨_,v,us,hs,rfl,_,_,_,how,_⟩:=gh hR hx hb hn;rw[vd how];refine .ms hs (DS _) ?_ fun _=>rfl
 rcases how.2 with ⟨rfl,_⟩|⟨g,cap,cur,rfl,_⟩ <;> rfl
theorem pf_of_ms(hR:Rel G sg w){id m:Nat}{u:Value}(hx:Rep G (.ms id m) u){z frz:Bool}{e:TypeId}{k:Nat}{es:List PV}(hb:sg[id]?=some (.row z e k es frz)):Rep G (.pf id m m) u:=by
 cases hx with
 |ms hs hle ho hv =>
  obtain⟨rfl,rfl,hz,hk,h1,⟨us,how,hL⟩,hS⟩:=hR.box id _ _ hs hb;refine .pf hs hle ho fun h=>⟨DS _,?_⟩
  rw[hv h,h,vd how]
theorem kR{w:World}{B B':Nat}{e:TypeId}{k n:Nat}{v:Value}{us:List Value}(h:w.ownsRow B e k v n us)(hB:B'<=B):w.ownsRow B' e k v n us:=by
 refine⟨h.1,?_⟩;rcases h.2 with h|⟨g,cap,cur,h1,h2,h3⟩
 ·exact .inl h
 ·exact .inr ⟨g,cap,cur,h1,by omega,h3⟩
theorem oneL{cs:List PV}{us:List Value}(hL:RepL G cs us.toArray)(h1:∀c∈cs,c.one=true):∀u∈us,u.oneCell'=true:=by
 intro u hu;obtain⟨j,hj,rfl⟩:=EX hu;have hl:us.length=cs.length:=by simpa using hL.1
 have hjc:j<cs.length:=by omega
 exact(hL.2 j cs[j] _ (DT hjc) (by simp[DT hj])).one (h1 _ (E5 hjc))
theorem grown_row(w:World)(e:TypeId)(k n m old B:Nat)(z:Value)(hzs:z.cells.size=k)(olds news:List Value)(hlo:olds.length=n*k)(hl:news.length=m*k)(h63:n+m<=maxLen)(hB:B<=w.heap.size):
 (w.drew.alloc (.cells (olds.toArray++news.toArray++Builtin.zeroCells z.cells (grownCap w (n+m) old e-(n+m))) e)).ownsRow B e k (.slice (some ⟨w.heap.size,0,none⟩) (n+m) (grownCap w (n+m) old e)) (n+m) (olds++news):=by
 have hge:=grownCap_ge w (n+m) old e;have hcm:grownCap w (n+m) old e<=maxLen:=grownCap_le_maxLen w (n+m) old e h63;have hlen:(olds++news).length=(n+m)*k:=by rw[Ea,hlo,hl,E4]
 refine⟨hlen,.inr ⟨w.heap.size,_,_,rfl,hB,heap_alloc_new w.drew _,hge,hcm,?_,?_⟩⟩
 ·simp only[Array.size_append,GA,size_zeroCells,hzs,hlo,hl,←E4]
  congr 1
  omega
 ·simp only[Array.toList_append,Et]
  rw[←Et,←hlen];exact GT
theorem cy(w:World)(o:Obj):Below w.heap.size w (w.drew.alloc o):=((Below.refl _ w).drew).alloc (DS _) o
theorem new_row(hR:Rel G sg w){fid:Nat}(hd:jT sg fid){w':World}(hb:Below w.heap.size w w'){e:TypeId}{k n cap:Nat}{g:Nat}(hg:w.heap.size<=g){es:List PV}{us:List Value}(hn:n=es.length)
 (how:w'.ownsRow w.heap.size e k (.slice (some ⟨g,0,none⟩) n cap) n us) (hk:∀x∈es,x.cells.length=k) (h1:∀c∈flat es,c.one=true) (hL:RepL G (flat es) us.toArray) :
 ∃G',Rel G' (sg.set fid (.row false e k es false)) w'∧G.le G'∧G'.dfr=G.dfr∧Rep G' (.ms fid n) (.slice (some ⟨g,0,none⟩) n cap):=by
 obtain⟨G',a,b,c,d⟩:=hR.fill (b:=.row false e k es false) hb hd (s:=.row (.slice (some ⟨g,0,none⟩) n cap) n k) (fun g' hg'=>by cases hg';exact hg) (fun G' hle hw hS hM hdf=>⟨rfl,hn,by simp,hk,h1,⟨us,kR how (hw▸hR.base_le),RepL.mono hle hL⟩,fun g' hg' o _=>by
  cases hg';rw[hS];exact(hR.fresh g hg).1 o⟩)
 exact⟨G',a,b,c,Rep.ms (m:=n) (k:=k) (v:=.slice (some ⟨g,0,none⟩) n cap) d (DS _) rfl fun _=>rfl⟩
theorem mU{t ty e:TypeId}(ht:P.underlying t=some (.slice e)){i:TyI}(hi:TyOk P e i)(w:World)(base:Option Addr)(n cap:Nat)(hn:n<=cap)(A:Option Addr)(c:Nat):
 (Builtin.append_ #[t,t] ty #[.slice base n cap,.slice A 0 c]).run P w=.ok (.slice base n cap) w:=by
 cases base <;> cases A <;> simp[Builtin.append_,run_underlying ht,g6 hi,Builtin.lenOf,hn,Builtin.firstCells,storeCells,loadCells,loadCellsFrom]
theorem mi{z:Z}{es:List PV}{u:Value}(hR:Rel G sg w)(h:Rep G (.sl z es) u):(z=.n∧es=[]∧u=.slice none 0 0) ∨
 ∃(g off cap k:Nat) (sp:Option Nat) (us:List Value),z≠.n∧(0<cap->sp=none)∧u=.slice (some ⟨g,off,sp⟩) es.length cap∧es.length<=cap∧cap<=maxLen∧(z=.f->cap=es.length)∧(∀e∈es,e.cells.length=k)∧(∀c∈flat es,c.one=true) ∧
  RepL G (flat es) us.toArray∧(∀j u,us[j]?=some u->w.cell? ((⟨g,off,none⟩:Addr).add j)=some u)∧us.length=es.length*k:=by
 cases h with
 |nils=>exact .inl ⟨rfl,rfl,rfl⟩
 |sl hz hf k us hk h1 hc hm hS hr hsp =>
  rename_i g off cap sp;have hfl:=bG es hk;refine .inr ⟨g,off,cap,k,sp,(List.range (es.length*k)).map us,hz,hsp,rfl,hc,hm,hf,hk,h1,⟨by simp[hfl],fun j c u hcj hu=>?_⟩,fun j u hu=>?_,by simp⟩
  ·have hj:j<es.length*k:=by rw[←hfl];exact(DR.1 hcj).1
   simp[hj]at hu;subst hu;exact hr j c hcj
  ·have hj:j<es.length*k:=by have:=(DR.1 hu).1;simpa using this
   simp[hj]at hu;subst hu;rw[gy];have hjf:j<(flat es).length:=by omega
   exact hR.st _ _ _ (hS j (flat es)[j] (DT hjf))
theorem oT{k:Nat}{ys:List PV}(h:(ys.all fun y=>y.cells.length==k)=true):∀y∈ys,y.cells.length=k:=fun y hy=>by
 have:=D7.1 h y hy
 simpa using this
theorem gU{x:PV}{ys:List PV}{u:Value}(hR:Rel G sg w)(hx:Rep G x u)(h:rowX sg x=some ys):(ys=[]∧∃A c,u=.slice A 0 c) ∨
 ∃(g off cap k:Nat) (us:List Value),u=.slice (some ⟨g,off,none⟩) ys.length cap∧ys.length<=cap∧(∀e∈ys,e.cells.length=k)∧(∀c∈flat ys,c.one=true) ∧
  RepL G (flat ys) us.toArray∧(∀j u,us[j]?=some u->w.cell? ((⟨g,off,none⟩:Addr).add j)=some u)∧us.length=ys.length*k:=by
 unfold rowX at h;split at h
 ·cases h
  rcases mi hR hx with ⟨_,rfl,rfl⟩|⟨g,off,cap,k,sp,us,_,hsp,rfl,hc,_,_,hk,h1,hL,hcell,hl⟩
  ·exact .inl ⟨rfl,_,_,rfl⟩
  ·cases ys with
   |nil=>exact .inl ⟨rfl,_,_,rfl⟩
   |cons y ys =>
    obtain rfl:=hsp (by rw[Ek]at hc;omega)
    exact .inr ⟨g,off,cap,k,us,rfl,hc,hk,h1,hL,hcell,hl⟩
 ·rename_i id n
  split at h <;> try (cases h;done)
  rename_i z e k es frz hb;split at h <;> cases h
  rename_i hn;cases hx with
  |ms hs hle ho hu =>
   obtain⟨rfl,rfl,hz,hk,h1,⟨us,how,hL⟩,hS⟩:=hR.box id _ _ hs hb;have hu:=hu hn.symm;subst hu;subst hn;rcases how.2 with ⟨rfl,h0⟩|⟨g,cap,cur,rfl,hB,hh,hnc,hcm,hcs,ht⟩
   ·exact .inl ⟨EB h0,_,_,rfl⟩
   ·exact .inr ⟨g,0,cap,k,us,rfl,hnc,hk,h1,hL,how.cells (g:=g) rfl,how.1⟩
 ·rename_i id d n
  split at h <;> try (cases h;done)
  rename_i z e k es frz hb;split at h <;> cases h
  rename_i hn;obtain⟨hdm,v,us,hs,rfl,hz,hk,h1,how,hL,hS⟩:=gh hR hx hb hn;rcases how.2 with ⟨rfl,h0⟩|⟨g,cap,cur,rfl,hB,hh,hnc,hcm,hcs,ht⟩
  ·exact .inl ⟨by rw[show d=0 by omega];rfl,_,_,by rw[show d=0 by omega];rfl⟩
  ·have hlen:(es.take d).length=d:=by simp;omega
   have hul:us.length=(flat es).length:=by simpa using hL.1
   have hfl:=gV es hk d;refine .inr ⟨g,0,cap,k,us.take (d*k),by rw[hlen];rfl,by omega,fun x hx=>hk x (Ey hx),fun c hc=>h1 c ?_,⟨?_,fun j c u hc hu=>?_⟩,fun j u hu=>?_,?_⟩
   ·rw[hfl]at hc;exact Ey hc
   ·rw[hfl];simp[hul]
   ·rw[hfl,El]at hc
    have hu':(us.take (d*k))[j]?=some u:=by simpa using hu
    rw[El]at hu';split at hc <;> try (cases hc;done)
    rename_i hj;rw[DZ hj]at hu';exact hL.2 j c u hc (by simpa using hu')
   ·rw[El]at hu
    split at hu <;> try (cases hu;done)
    exact how.cells (g:=g) rfl j u hu
   ·rw[En,hlen,how.1]
    have:d*k<=n*k:=E7 _ hdm
    omega
 ·cases h
theorem oz(hT:TyT P T)(hR:Rel G sg w){fid:Nat}(hfree:jT sg fid){t ty:TypeId}{s x:PV}{su xu:Value}(hs:Rep G s su)(hx:Rep G x xu){v:PV}{ef:Eff}(h:fA T sg fid t s x=some (v,ef)):
 ∃u w' G',(Builtin.append_ #[t,t] ty #[su,xu]).run P w=.ok u w'∧Rel G' (Lm sg ef) w'∧G.le G'∧G'.dfr=G.dfr∧Rep G' v u:=by
 unfold fA at h;split at h <;> try (cases h;done)
 rename_i e hd;split at h <;> try (cases h;done)
 rename_i hc;obtain⟨he,h0⟩:=hc;have ht:=bB (hT t (by rw[hd];rfl)) hd
 obtain⟨f,z,ud,i1,i2,i3,i4,i5,i6,i7,i8,i9,i10,_⟩:=(hT e he).ex;split at h <;> try (cases h;done)
 rename_i ys hxs;split at h
 ·rename_i hemp
  have hys:ys=[]:=by simpa using hemp
  subst hys;have hxu:∃A c,xu=.slice A 0 c:=by
   rcases gU hR hx hxs with ⟨_,h⟩|⟨g,off,cap,k,us,rfl,_⟩
   ·exact h
   ·exact⟨_,_,rfl⟩
  obtain⟨A,c,rfl⟩:=hxu;split at h <;> try (cases h;done)
  ·cases h
   rcases mi hR hs with ⟨_,_,rfl⟩|⟨g,off,cap,k,sp,us,_,hsp,rfl,hcap,_⟩
   ·exact⟨_,_,G,mU ht (hT e he) w _ _ _ (DS _) A c,hR,G.le_refl,rfl,hs⟩
   ·exact⟨_,_,G,mU ht (hT e he) w _ _ _ hcap A c,hR,G.le_refl,rfl,hs⟩
  ·rename_i id n
   split at h <;> try (cases h;done)
   rename_i z' e' k es frz hb;split at h <;> cases h
   rename_i hn;have hs0:=hs;cases hs with
   |ms hsl hle ho hu =>
    have hok:=hR.box id _ _ hsl hb;obtain⟨rfl,rfl,hz,hk,h1,⟨us,how,hL⟩,hS⟩:=hok;have hu:=hu hn.symm;subst hu;have hf:∃base cap,su=.slice base es.length cap∧es.length<=cap:=by
     rcases how.2 with ⟨rfl,h0⟩|⟨g,cap,cur,rfl,_,_,hnc,_⟩
     ·rw[h0];exact⟨_,_,rfl,DS _⟩
     ·exact⟨_,_,rfl,hnc⟩
    obtain⟨base,cap,rfl,hcap⟩:=hf;exact⟨_,_,G,mU ht (hT e he) w _ _ _ hcap A c,hR,G.le_refl,rfl,hs0⟩
 ·rename_i hemp
  split at h <;> try (cases h;done)
  rename_i hall;have hyk:=oT hall;have hm0:0<ys.length:=by cases ys with|nil=>simp at hemp|cons=>simp
  rcases gU hR hx hxs with ⟨rfl,_⟩|⟨gx,ox,cx,kx,nws,rfl,hcx,hkx,h1x,hLx,hcellx,hlx⟩
  ·simp at hm0
  have hkx':kx=(T e).size:=by
   cases ys with
   |nil=>simp at hm0
   |cons y ys=>rw[←hkx y (DV ..),hyk y (DV ..)]
  subst hkx';have hnl:nws.length=ys.length*f.size:=by rw[hlx,i2]
  split at h <;> try (cases h;done)
  ·
   rename_i esn;split at h <;> cases h
   rename_i hroom;simp only[tG,D3,Eo]at hroom;rcases mi hR hs with ⟨_,_,rfl⟩|⟨_,_,_,_,_,_,hne,_⟩
   ·have hr:=run_append_nil (P:=P) w t ty e f z ht i1 i4 ⟨gx,ox,none⟩ ys.length cx nws hnl hcellx hm0 (by have:=hroom.2;simp[maxLen]at this;omega) (by rw[i3];have:=hroom.1;omega)
    have hgr:=grown_row w e (T e).size 0 ys.length 0 w.heap.size z i5 [] nws (by simp) hlx (by simpa using hroom.2) (DS _)
    simp only[EG,EA,Array.empty_append]at hgr;obtain⟨G',a1,a2,a3,a4⟩:=new_row hR hfree (cy w _) (DS _) rfl hgr hyk h1x hLx;exact⟨_,_,G',hr,a1,a2,a3,a4⟩
   ·exact absurd rfl hne
  ·
   rename_i es;split at h <;> cases h
   rename_i hroom;obtain⟨hroom,hall2⟩:=hroom;have hek:=oT hall2;simp only[tG,D3,Eo]at hroom;rcases mi hR hs with ⟨hne,_⟩|⟨gs,os,cs,ks,sp,ols,_,hsp,rfl,hcs,_,hful,hks,h1s,hLs,hcells,hls⟩
   ·cases hne
   ·have hful:=hful rfl
    subst hful;have hcells':∀j u,ols[j]?=some u->w.cell? ((⟨gs,os,sp⟩:Addr).add j)=some u:=by
     rcases FH es.length with h0|h0
     ·obtain rfl:ols=[]:=EB (by rw[hls,h0,Nat.zero_mul])
      intro j u h;simp at h
     ·obtain rfl:=hsp h0
      exact hcells
    have hols:ols.length=es.length*(T e).size:=by
     by_cases hes:es=[]
     ·subst hes;simpa using hls
     ·obtain⟨y,hy⟩:=List.exists_mem_of_ne_nil es hes
      rw[hls,←hks y hy,hek y hy]
    have hr:=run_append_grow (P:=P) w t ty e f z ht i1 i4 ⟨gs,os,sp⟩ es.length es.length ols (by rw[hols,i2]) hcells' ⟨gx,ox,none⟩ ys.length cx nws hnl hcellx (by omega)
     (by have:=hroom.2;simp[maxLen]at this;omega) (growslice_fits (by omega) (by rw[i3];exact hroom.1))
    have hgr:=grown_row w e (T e).size es.length ys.length es.length w.heap.size z i5 ols nws hols hlx hroom.2 (DS _);have hLa:RepL G (flat (es++ys)) (ols++nws).toArray:=by
     rw[eZ];have e1:ols.length=(flat es).length:=by simpa using hLs.1
     have e2:nws.length=(flat ys).length:=by simpa using hLx.1
     refine⟨by simp[e1,e2],fun j c u hc hu=>?_⟩
     have hu':(ols++nws)[j]?=some u:=by simpa using hu
     by_cases hj:j<(flat es).length
     ·rw[DY hj]at hc
      rw[DY (by omega)]at hu'
      exact hLs.2 j c u hc (by simpa using hu')
     ·rw[D9 (by omega)]at hc
      rw[D9 (by omega),e1]at hu'
      exact hLx.2 _ c u hc (by simpa using hu')
    obtain⟨G',a1,a2,a3,a4⟩:=new_row hR hfree (cy w _) (DS _) (es:=es++ys) (by simp) hgr
     (fun x hx=>by rcases Ez.1 hx with h|h;exact hek x h;exact hyk x h)
     (fun c hc=>by rw[eZ]at hc;rcases Ez.1 hc with h|h;exact h1s c h;exact h1x c h) hLa
    exact⟨_,_,G',hr,a1,a2,a3,a4⟩
  ·
   rename_i id n;split at h <;> try (cases h;done)
   rename_i z' e' k es frz hb;split at h <;> cases h
   rename_i hcond;obtain⟨hn,rfl,rfl,hroom⟩:=hcond;simp only[tG,D3,Eo]at hroom;cases hs with
   |ms hsl hle ho hu =>
    have hok:=hR.box id _ _ hsl hb;obtain⟨rfl,rfl,hz,hk,h1,⟨us,how,hL⟩,hS⟩:=hok;have hu:=hu hn.symm;subst hu;subst hn;have e1:us.length=(flat es).length:=by simpa using hL.1
    have e2:nws.length=(flat ys).length:=by simpa using hLx.1
    have hLa:RepL G (flat (es++ys)) (us++nws).toArray:=by
     rw[eZ];refine⟨by simp[e1,e2],fun j c u hc hu=>?_⟩
     have hu':(us++nws)[j]?=some u:=by simpa using hu
     by_cases hj:j<(flat es).length
     ·rw[DY hj]at hc
      rw[DY (by omega)]at hu'
      exact hL.2 j c u hc (by simpa using hu')
     ·rw[D9 (by omega)]at hc
      rw[D9 (by omega),e1]at hu'
      exact hLx.2 _ c u hc (by simpa using hu')
    have hka:∀x∈es++ys,x.cells.length=(T e').size:=fun x hx=>by rcases Ez.1 hx with h|h;exact hk x h;exact hyk x h
    have h1a:∀c∈flat (es++ys),c.one=true:=fun c hc=>by rw[eZ]at hc;rcases Ez.1 hc with h|h;exact h1 c h;exact h1x c h
    have huslen:us.length=es.length*(T e').size:=how.1;have fin:∀(v':Value) (w':World),w'.ownsRow G.w0.heap.size e' (T e').size v' (es.length+ys.length) (us++nws)->w.grownBy w' su.ownBlock->v'≠.slice none 0 0->v'.oneCell'=true ->
     (∀g,v'.ownBlock=some g->su.ownBlock=some g∨w.heap.size<=g)->(∀g,su.ownBlock=some g->∀o v,G.S g o=some v->w'.cell? ⟨g,o,none⟩=some v) ->
     (∀g,v'.ownBlock=some g->∀o,(frz=false∨(es.length+ys.length)*(T e').size<=o)->G.S g o=none) ->
     ∃G',Rel G' (sg.set id (.row false e' (T e').size (es++ys) frz)) w'∧G.le G'∧G'.dfr=G.dfr∧Rep G' (.ms id (es.length+ys.length)) v':=by
     intro v' w' how' hg hne hone' hfr hst hSv;have hle':Slot.le (.row su es.length (T e').size) (.row v' (es.length+ys.length) (T e').size):=⟨rfl,.inl (by omega)⟩
     have hG:=G.setSlot_le id _ _ hsl hle';refine⟨G.setSlot id (.row v' (es.length+ys.length) (T e').size),?_,hG,rfl,Rep.ms (m:=es.length+ys.length) (k:=(T e').size) (v:=v') (by simp[Gh.setSlot,(DR.1 hsl).1]) (DS _) hone' fun _=>rfl⟩
     refine hR.change hsl hle' hg hfr (fun g hgb=>(how.lt g hgb).1) hst (fun g hgb es' c hM=>?_) (fun g hgb=>kH hR hsl hb hgb) ?_
     ·exfalso
      have:=hR.stM _ _ _ hM
      rcases how.2 with ⟨rfl,_⟩|⟨g',cap,cur,rfl,_,hh,_⟩
      ·cases hgb
      ·cases hgb;rw[hh]at this;cases this
     ·exact⟨rfl,by simp,by simp[hne],hka,h1a,⟨us++nws,how',RepL.mono hG hLa⟩,hSv⟩
    rcases how.2 with ⟨rfl,hn0⟩|⟨g,cap,cur,rfl,hB,hh,hnc,hcm,hcs,ht'⟩
    ·have hes:es=[]:=EB hn0
     subst hes;have hus:us=[]:=EB (by simpa using huslen)
     subst hus;simp only[ET,EG,EA]at *;have hr:=run_append_nil (P:=P) w t ty e' f z ht i1 i4 ⟨gx,ox,none⟩ ys.length cx nws hnl hcellx hm0 (by have:=hroom.2;simp[maxLen]at this;omega) (by rw[i3];have:=hroom.1;omega)
     have hgr:=grown_row w e' (T e').size 0 ys.length 0 G.w0.heap.size z i5 [] nws (by simp) hlx (by simpa using hroom.2) hR.base_le
     simp only[EG,EA,Array.empty_append]at hgr;obtain⟨G',a1,a2,a3,a4⟩:=fin _ _ hgr (gj (cy w _)) (by simp) rfl (fun g hg=>by cases hg;exact .inr (DS _)) (fun g hg=>by cases hg)
      (fun g hg o _=>by cases hg;exact(hR.fresh _ (DS _)).1 o)
     exact⟨_,_,G',hr,a1,a2,a3,a4⟩
    ·by_cases hcap:es.length+ys.length<=cap
     ·have hfit:es.length*f.size+nws.length<=cur.size:=by rw[hnl,hcs,i2,←E4];exact E7 _ hcap
      have hr:=run_append_room (P:=P) w t ty e' f ht i1 g es.length cap cur hh ⟨gx,ox,none⟩ ys.length cx nws hnl hcellx (oneL hLx h1x) hcap hfit;have hlen:(us++nws).length=(es.length+ys.length)*(T e').size:=by rw[Ea,huslen,hlx,E4]
      rw[i2]at hr hfit;obtain⟨cur',hcur'⟩:∃c:Array Value,c=(cur.toList.take (es.length*(T e').size)++nws++cur.toList.drop (es.length*(T e').size+nws.length)).toArray:=⟨_,rfl⟩;rw[←hcur']at hr;have hcl:cur'.toList=us++nws++cur.toList.drop (es.length*(T e').size+nws.length):=by rw[hcur',ht']
      obtain⟨G',a1,a2,a3,a4⟩:=fin (.slice (some ⟨g,0,none⟩) (es.length+ys.length) cap) (w.setRow g cur') ⟨hlen,.inr ⟨g,cap,cur',rfl,hB,setRow_heap w g cur _ e' _ hh,hcap,hcm,by
       rw[←Array.length_toList,hcl];simp only[Ea,List.length_drop,Array.length_toList];omega,by
       rw[hcl,←hlen];exact GT⟩⟩ (dR w g _) (by simp) rfl (fun g' hg'=>.inl hg') (fun g' hg' o v hv=>by
       cases hg';have ho:¬(frz=false∨es.length*(T e').size<=o):=fun hcon=>by rw[hS g rfl o hcon]at hv;cases hv
       have ho':o<es.length*(T e').size:=by omega
       have h2:=hR.st _ _ _ hv;rw[cK hh,←Fw]at h2;rw[cK (setRow_heap w g cur cur' e' _ hh),←Fw,hcl,Et,DY (by omega),←ht',El,DZ ho']
       exact h2) (fun g' hg' o ho=>by
       cases hg';refine hS g rfl o (ho.imp (fun h=>h) fun ho=>?_)
       rw[E4]at ho;omega)
      exact⟨_,_,G',hr,a1,a2,a3,a4⟩
     ·have holds:∀j u,us[j]?=some u->w.cell? ((⟨g,0,none⟩:Addr).add j)=some u:=how.cells (g:=g) rfl
      have hr:=run_append_grow (P:=P) w t ty e' f z ht i1 i4 ⟨g,0,none⟩ es.length cap us (by rw[huslen,i2]) holds ⟨gx,ox,none⟩ ys.length cx nws hnl hcellx (by omega)
       (by have:=hroom.2;simp[maxLen]at this;omega) (growslice_fits (by omega) (by rw[i3];exact hroom.1))
      have hgr:=grown_row w e' (T e').size es.length ys.length cap G.w0.heap.size z i5 us nws huslen hlx hroom.2 hR.base_le;have hbl:=cy w (.cells (us.toArray++nws.toArray++Builtin.zeroCells z.cells (grownCap w (es.length+ys.length) cap e'-(es.length+ys.length))) e');obtain⟨G',a1,a2,a3,a4⟩:=fin _ _ hgr (gj hbl) (by simp) rfl (fun g' hg'=>by cases hg';exact .inr (DS _)) (fun g' hg' o v hv=>by
       cases hg';have:=hR.st _ _ _ hv
       exact(hbl.cell (p:=⟨g,o,none⟩) (iF this)).trans this)
       (fun g' hg' o _=>by cases hg';exact(hR.fresh _ (DS _)).1 o)
      exact⟨_,_,G',hr,a1,a2,a3,a4⟩
theorem ws{fid:Nat}{t:TypeId}{id m:Nat}{x v:PV}{ef:Eff}{z frz:Bool}{e:TypeId}{k:Nat}{es:List PV}(hb:sg[id]?=some (.row z e k es frz))(h:fA T sg fid t (.ms id m) x=some (v,ef)):
 ∃n2 z' frz' e' k' es',v=.ms id n2∧(Lm sg ef)[id]?=some (.row z' e' k' es' frz'):=by
 have hid:=(DR.1 hb).1;unfold fA at h;split at h <;> try (cases h;done)
 split at h <;> try (cases h;done)
 split at h <;> try (cases h;done)
 split at h
 ·simp only[hb]at h
  split at h <;> cases h
  exact⟨_,_,_,_,_,_,rfl,hb⟩
 ·split at h <;> try (cases h;done)
  simp only[hb]at h;split at h <;> cases h
  exact⟨_,_,_,_,_,_,rfl,D4 hid⟩
theorem pfPut_ok(hT:TyT P T)(hR:Rel G sg w){t ty e:TypeId}(hd:(T t).d=.slice e)(he:(T e).d.ok=true)(h0:0<(T e).size){id d m:Nat}{x:PV}{su xu:Value}(hs:Rep G (.pf id d m) su)(hx:Rep G x xu){ys:List PV}(hxs:rowX sg x=some ys)
 (hall:(ys.all fun y=>y.cells.length==(T e).size)=true) {v:PV} {ef:Eff} (h:yA T sg e id d m ys=some (v,ef)) :
 ∃u w' G',(Builtin.append_ #[t,t] ty #[su,xu]).run P w=.ok u w'∧Rel G' (Lm sg ef) w'∧G.le G'∧G'.dfr=G.dfr∧Rep G' v u:=by
 unfold yA at h;split at h <;> try (cases h;done)
 rename_i e' k es hb;split at h <;> cases h
 rename_i hc;obtain⟨hn,rfl,rfl,hy0,hfit⟩:=hc;obtain⟨hdm,v,us,hsl,rfl,hz,hk,h1,how,hL,hS⟩:=gh hR hs hb hn;have ht:=bB (hT t (by rw[hd];rfl)) hd
 obtain⟨f,z,ud,i1,i2,i3,i4,i5,i6,i7,i8,i9,i10,_⟩:=(hT e' he).ex;have hyk:=oT hall;rcases gU hR hx hxs with ⟨rfl,_⟩|⟨gx,ox,cx,kx,nws,rfl,hcx,hkx,h1x,hLx,hcellx,hlx⟩
 ·simp at hy0
 have hkx':kx=(T e').size:=by
  cases ys with
  |nil=>simp at hy0
  |cons y ys=>rw[←hkx y (DV ..),hyk y (DV ..)]
 subst hkx';have hnl:nws.length=ys.length*f.size:=by rw[hlx,i2]
 have hmk:(d+ys.length)*(T e').size<=m*(T e').size:=E7 _ hfit;rw[E4]at hmk;obtain⟨g,cap,cur,rfl,hB,hh,hnc,hcm,hcs,htk⟩:=cG how (by intro e;rw[e]at hz;simp at hz)
 have hcap:m*(T e').size<=cap*(T e').size:=E7 _ hnc;have hr:=run_append_room (P:=P) w t ty e' f ht i1 g d cap cur hh ⟨gx,ox,none⟩ ys.length cx nws hnl hcellx (oneL hLx h1x) (by omega) (by rw[hnl,hcs,i2];omega)
 rw[i2]at hr;have hul:us.length=m*(T e').size:=how.1;have hfs:flat (aW es d ys)=aW (flat es) (d*(T e').size) (flat ys):=by
  have hfy:=bG ys hyk;simp only[aW,eZ,gV es hk,md es hk,hfy,E4]
 have hset:=cn hsl;refine⟨_,_,G,hr,?_,G.le_refl,rfl,.pf hsl (DS _) rfl fun _=>⟨hfit,rfl⟩⟩
 show Rel G (sg.set id _) _;rw[←hset];refine hR.change hsl (Slot.le_refl _) (dR w g _) (fun g' e=>.inl e) (fun g' e=>by cases e;exact hB) (fun g' e o v hv=>by rw[hS g' e o (.inl rfl)]at hv;cases hv)
  (fun g' e es c hM=>?_) (fun g' e=>kH hR hsl hb e) ?_
 ·cases e
  have:=hR.stM _ _ _ hM
  rw[hh]at this;cases this
 ·rw[hset]
  have hsplen:(aW es d ys).length=m:=by rw[cd _ _ _ (by omega)];exact hn
  have hflk:∀y∈aW es d ys,y.cells.length=(T e').size:=by
   intro y hy;rcases eF hy with hy|hy
   ·exact hk y hy
   ·exact hyk y hy
  refine⟨rfl,hsplen.symm,hz,hflk,fun c hc=>?_,⟨aW us (d*(T e').size) nws,?_,?_⟩,hS⟩
  ·rw[hfs]at hc
   rcases eF hc with hc|hc
   ·exact h1 c hc
   ·exact h1x c hc
  ·refine⟨by rw[cd _ _ _ (by omega)];exact hul,.inr ⟨g,cap,_,rfl,hB,setRow_heap w g cur _ _ _ hh,hnc,hcm,?_,?_⟩⟩
   ·simp only[GA]
    have:=cd cur.toList (d*(T e').size) nws (by simp;omega)
    simp only[aW]at this;rw[this];simpa using hcs
   ·rw[←htk]
    apply E6;intro q;have hA:=da (cur.toList.take (m*(T e').size)) (d*(T e').size) nws (by simp;omega) q
    have hB':=da cur.toList (d*(T e').size) nws (by simp;omega) q
    rw[hA,El,El];by_cases hq:q<m*(T e').size
    ·rw[DZ hq,DZ hq]
     exact hB'
    ·rw[D5 hq,D5 hq,D5 (by omega)]
  ·rw[hfs]
   refine eL ?_ hL hLx;rw[bG es hk,bG ys hyk,hn];omega
theorem xC(hT:TyT P T)(hR:Rel G sg w){fid:Nat}(hfree:jT sg fid){t ty:TypeId}{s x:PV}{su xu:Value}(hs:Rep G s su)(hx:Rep G x xu){v:PV}{ef:Eff}(h:ed T sg fid t s x=some (v,ef)):
 ∃u w' G',(Builtin.append_ #[t,t] ty #[su,xu]).run P w=.ok u w'∧Rel G' (Lm sg ef) w'∧G.le G'∧G'.dfr=G.dfr∧Rep G' v u:=by
 unfold ed at h;split at h
 ·rename_i id d m
  split at h <;> try (cases h;done)
  rename_i z e k es frz hb;split at h <;> try (cases h;done)
  rename_i hn;split at h
  ·rename_i hdm
   subst hdm;split at h <;> cases h
   rename_i id2 n2 ha;obtain⟨n3,z',frz',e',k',es',h1,h2⟩:=ws hb ha;cases h1;obtain⟨u,w',G',a1,a2,a3,a4,a5⟩:=oz hT hR hfree (uY hR hs hb hn) hx ha;exact⟨u,w',G',a1,a2,a3,a4,pf_of_ms a2 a5 h2⟩
  ·split at h <;> try (cases h;done)
   rename_i e2 hd;split at h <;> try (cases h;done)
   rename_i hc;split at h <;> try (cases h;done)
   rename_i ys hxs;split at h
   ·rename_i hemp
    cases h;have hys:ys=[]:=by simpa using hemp
    subst hys;have ht:=bB (hT t (by rw[hd];rfl)) hd
    have hxu:∃A c,xu=.slice A 0 c:=by
     rcases gU hR hx hxs with ⟨_,h⟩|⟨g,off,cap,k,us,rfl,_⟩
     ·exact h
     ·exact⟨_,_,rfl⟩
    obtain⟨A,c,rfl⟩:=hxu;obtain⟨hdm',v,us,hsl,rfl,hz,hk,h1,how,hL,hS⟩:=gh hR hs hb hn;have hf:∃base cap,preV v d=.slice base d cap∧d<=cap:=by
     rcases how.2 with ⟨rfl,h0⟩|⟨g,cap,cur,rfl,_,_,hnc,_⟩
     ·obtain rfl:d=0:=by omega
      exact⟨_,_,rfl,DS _⟩
     ·exact⟨_,_,rfl,by omega⟩
    obtain⟨base,cap,hv',hcap⟩:=hf;rw[hv']at hs ⊢;exact⟨_,_,G,mU ht (hT e2 hc.1) w _ _ _ hcap A c,hR,G.le_refl,rfl,hs⟩
   split at h <;> try (cases h;done)
   rename_i hall;exact pfPut_ok hT hR hd hc.1 hc.2 hs hx hxs hall h
 ·exact oz hT hR hfree hs hx h
end
section
variable {P:Program} {T:TypeId->TyI} {G:Gh} {sg:List Box} {w:World}
theorem rD(hT:TyT P T)(hR:Rel G sg w){fid:Nat}(hfree:jT sg fid){t:TypeId}{l c:PV}{lu cu:Value}(hl:Rep G l lu)(hc:Rep G c cu){v:PV}{ef:Eff}(h:iI T fid t l c=some (v,ef)):
 ∃u w' G',(Instr.makeSlice t lu cu).run P w=.ok u w'∧Rel G' (Lm sg ef) w'∧G.le G'∧G'.dfr=G.dfr∧Rep G' v u:=by
 unfold iI at h;split at h <;> try (cases h;done)
 rename_i e k1 n k2 m hd;split at h <;> cases h
 rename_i hcond;obtain⟨he,h0,rfl,hn,hb,hml⟩:=hcond;cases hl;cases hc;have ht:=bB (hT t (by rw[hd];rfl)) hd
 obtain⟨f,z,ud,i1,i2,i3,i4,i5,i6,i7,i8,i9,i10,_⟩:=(hT e he).ex;obtain⟨N,rfl⟩:=Int.eq_ofNat_of_zero_le hn;simp only[Int.toNat_natCast]at hb hml ⊢;obtain⟨w',hr,how,hg⟩:=run_make_full (P:=P) w w.heap.size t e f z (T e).size ht i1 i4 i2 k1 k2 N (by rw[i3];exact hb) hml (DS _)
 obtain⟨z1,z2,z3⟩:=jg (hT e he) h0 N i8 i5 G;have hbel:Below w.heap.size w w':=⟨hg.os,hg.tape,hg.output,hg.size,fun k hk=>hg.block k hk (by simp)⟩
 obtain⟨G',a1,a2,a3,a4⟩:=new_row hR hfree hbel (DS _) (es:=List.replicate N (T e).zeroE) (by simp) how z3 z2 (by rw[Array.toArray_toList];exact z1)
 exact⟨_,w',G',hr,a1,a2,a3,a4⟩
theorem kU{n:Nat}(h:n<=maxLen):(Lit.int .i64 (n:Int)).wf=true:=by
 simp only[maxLen]at h;simp[Lit.wf,IntKind.min,IntKind.max,IntKind.signed,IntKind.bits];omega
theorem len_ok(hT:TyT P T)(hR:Rel G sg w){t ty:TypeId}{x v:PV}{u:Value}(hx:Rep G x u)(h:lenC T sg t x=some v):
 ∃u',(Builtin.len_ #[t] ty #[u]).run P w=.ok u' w∧Rep G v u':=by
 unfold lenC at h;split at h <;> try (cases h;done)
 ·rename_i s hd
  cases h;have hu:=mf (hT t (by rw[hd];rfl)) hd
  cases hx with
  |str hl =>
   refine⟨.int .i64 s.length,?_,.int (kU hl)⟩;have hsz:(⟨s.toArray⟩:ByteArray).size=s.length:=rfl;simp[Builtin.len_,run_underlying hu,goInt,hsz]
 ·rename_i e z es hd
  cases h;have hu:=bB (hT t (by rw[hd];rfl)) hd
  cases hx with
  |nils=>exact⟨_,by simp[Builtin.len_,run_underlying hu,goInt],.int (by decide)⟩
  |sl hz hf k us hk h1 hc hm hS hr _=>exact⟨_,by simp[Builtin.len_,run_underlying hu,goInt],.int (kU (by omega))⟩
 ·rename_i e id n hd
  split at h <;> try (cases h;done)
  rename_i z e' k es frz hb;split at h <;> cases h
  rename_i hn;have hu:=bB (hT t (by rw[hd];rfl)) hd
  cases hx with
  |ms hs hle ho hv =>
   have hok:=hR.box id _ _ hs hb;obtain⟨rfl,rfl,hz,hk,h1,⟨us,how,hL⟩,_⟩:=hok;have hv:=hv hn.symm;subst hv;subst hn;rcases how.2 with ⟨rfl,h0⟩|⟨g,cap,cur,rfl,_,_,hnc,hcm,_⟩
   ·rw[h0];exact⟨_,by simp[Builtin.len_,run_underlying hu,goInt],.int (by decide)⟩
   ·exact⟨_,by simp[Builtin.len_,run_underlying hu,goInt],.int (kU (by omega))⟩
 ·rename_i e id d n hd
  split at h <;> try (cases h;done)
  rename_i z e' k es frz hb;split at h <;> cases h
  rename_i hn;have hu:=bB (hT t (by rw[hd];rfl)) hd
  obtain⟨hdm,v,us,hs,rfl,hz,hk,h1,how,hL,hS⟩:=gh hR hx hb hn;rcases how.2 with ⟨rfl,h0⟩|⟨g,cap,cur,rfl,_,_,hnc,hcm,_⟩
  ·obtain rfl:d=0:=by omega
   exact⟨_,by simp[preV,Builtin.len_,run_underlying hu,goInt],.int (by decide)⟩
  ·exact⟨_,by simp[preV,Builtin.len_,run_underlying hu,goInt],.int (kU (by omega))⟩
 ·rename_i n e hd
  split at h <;> cases h
  have hu:=iq (hT t (by rw[hd];rfl)) hd
  exact⟨_,by simp[Builtin.len_,run_underlying hu,goInt],.int (kU ‹_›)⟩
 ·rename_i k e ks vs hd
  split at h <;> cases h
  have hu:=gZ (hT t (by rw[hd];rfl)) hd
  cases hx with
  |im hs hp hk hv hrk hrv =>
   have hh:=hR.stM _ _ _ hs;refine⟨_,?_,.int (kU ‹_›)⟩;have hpl:=hp.length_eq;simp[Builtin.len_,run_underlying hu,goInt,getObj,Sem.run,hh,hk,hpl]
 ·rename_i k e id hd
  split at h <;> try (cases h;done)
  rename_i ks vs frz hb;split at h <;> cases h
  have hu:=gZ (hT t (by rw[hd];rfl)) hd
  cases hx with
  |mp hs =>
   have hok:=hR.box id _ _ hs hb;obtain⟨_,_,es,c,ls,hh,hp,hk,_⟩:=hok;refine⟨_,?_,.int (kU ‹_›)⟩;have hpl:=hp.length_eq;simp[Builtin.len_,run_underlying hu,goInt,getObj,Sem.run,hh,hk,hpl]
 ·rename_i k e hd
  cases h;have hu:=gZ (hT t (by rw[hd];rfl)) hd
  cases hx;exact⟨_,by simp[Builtin.len_,run_underlying hu,goInt],.int (by decide)⟩
theorem uU{len cap:Nat}{lo hi:Option PV}{lou hiu:Option Value}{l h:Nat}(isSl:Bool)(hlo:∀v,lo=some v->∃u,lou=some u∧Rep G v u)(hlo':lo=none->lou=none)
 (hhi:∀v,hi=some v->∃u,hiu=some u∧Rep G v u) (hhi':hi=none->hiu=none) (hcap:len<=cap) (hc:cutC len lo hi=some (l,h)) (w:World) :
 (Instr.sliceBounds isSl len cap lou hiu none).run P w=.ok (l,h,cap) w∧l<=h∧h<=len:=by
 unfold cutC at hc;split at hc <;> try (cases hc;done)
 ·cases hc
  rw[hlo' rfl,hhi' rfl];exact⟨by simp[Instr.sliceBounds],Ee _,DS _⟩
 ·rename_i k a
  split at hc <;> cases hc
  rename_i hb;obtain⟨u,rfl,hr⟩:=hlo _ rfl;cases hr;rw[hhi' rfl];refine⟨?_,by omega,DS _⟩
  simp[Instr.sliceBounds,Instr.sliceBound,asIntOf,hb.1,hb.2]
 ·rename_i k a
  split at hc <;> cases hc
  rename_i hb;obtain⟨u,rfl,hr⟩:=hhi _ rfl;cases hr;rw[hlo' rfl];refine⟨?_,Ee _,by omega⟩
  have:a<=(cap:Int):=by omega
  simp[Instr.sliceBounds,Instr.sliceBound,asIntOf,hb.1,this]
 ·rename_i k a k' b
  split at hc <;> cases hc
  rename_i hb;obtain⟨u,rfl,hr⟩:=hhi _ rfl;cases hr;obtain⟨u,rfl,hr⟩:=hlo _ rfl;cases hr;refine⟨?_,by omega,by omega⟩
  have h1:b<=(cap:Int):=by omega
  have h2:0<=b:=by omega
  have h3:a<=((b.toNat:Nat):Int):=by omega
  have h4:a<=max b 0:=by omega
  simp[Instr.sliceBounds,Instr.sliceBound,asIntOf,hb.1,h1,h2,h4]
theorem slice_ok(hT:TyT P T){t:TypeId}{x v:PV}{lo hi mx:Option PV}{u:Value}{lou hiu mxu:Option Value}(hx:Rep G x u)
 (hlo:∀v,lo=some v->∃u,lou=some u∧Rep G v u) (hlo':lo=none->lou=none) (hhi:∀v,hi=some v->∃u,hiu=some u∧Rep G v u) (hhi':hi=none->hiu=none)
 (hmx:∀v,mx=some v->∃u,mxu=some u∧Rep G v u) (hmx':mx=none->mxu=none) (h:vf T t x lo hi mx=some v) :
 ∃u',(Instr.sliceAt t u lou hiu mxu).run P w=.ok u' w∧Rep G v u':=by
 unfold vf at h;split at h <;> try (cases h;done)
 ·rename_i s hd
  split at h <;> cases h
  rename_i l hh hc;have hu:=mf (hT t (by rw[hd];rfl)) hd
  rw[hmx' rfl];cases hx with
  |str hl =>
   obtain⟨h1,h2,h3⟩:=uU (P:=P) (G:=G) false hlo hlo' hhi hhi' (DS _) hc w;refine⟨.string ⟨((s.drop l).take (hh-l)).toArray⟩,?_,.str (by simp;omega)⟩
   have he:(⟨s.toArray⟩:ByteArray).extract l hh=⟨((s.drop l).take (hh-l)).toArray⟩:=by
    apply ByteArray.ext;apply Array.ext';simp[ByteArray.data_extract,List.extract_eq_take_drop]
   simp only[Instr.sliceAt,Instr.slice,Sem.run_bind,run_underlying hu,Result.andThen_ok,ByteArray.size,GA];simp[h1,he]
 ·rename_i e z es hd
  split at h <;> try (cases h;done)
  rename_i hcnd;split at h <;> cases h
  rename_i l hh hc;have hu:=bB (hT t (by rw[hd];rfl)) hd
  rw[hmx' rfl];cases hx with
  |nils =>
   obtain⟨h1,h2,h3⟩:=uU (P:=P) (G:=G) (cap:=0) true hlo hlo' hhi hhi' (DS _) hc w;simp at h3;have hl0:l=0:=by omega
   subst hl0;subst h3;refine⟨.slice none 0 0,?_,by simpa using .nils⟩
   have h1':(Instr.sliceBounds true 0 0 lou hiu none).run P w=.ok (0,0,0) w:=h1;simp[Instr.sliceAt,Instr.slice,run_underlying hu,h1',g6 (hT e hcnd.1)]
  |sl hz hf k us hk hone hcap hm hS hr hsp =>
   rename_i g off cap sp;obtain⟨h1,h2,h3⟩:=uU (P:=P) (G:=G) true hlo hlo' hhi hhi' hcap hc w;have hlen:((es.drop l).take (hh-l)).length=hh-l:=by simp;omega
   have hke:=oT hcnd.2;refine⟨.slice (some (if cap=l then⟨g,off,sp⟩else⟨g,off+l*(T e).size,none⟩)) (hh-l) (cap-l),?_,?_⟩
   ·by_cases hcl0:cap=l
    ·subst hcl0
     simp[Instr.sliceAt,Instr.slice,run_underlying hu,h1,g6 (hT e hcnd.1)]
    ·obtain rfl:=hsp (by omega)
     simp[Instr.sliceAt,Instr.slice,run_underlying hu,h1,g6 (hT e hcnd.1),gy];split <;> rfl
   ·by_cases hempty:hh-l=0
    ·have hnil:(es.drop l).take (hh-l)=[]:=EB (by omega)
     rw[hnil,hempty];by_cases hcl:cap=l
     ·rw[DZ hcl]
      refine Rep.sl (g:=g) (off:=off) (es:=[]) (cap:=cap-l) (z:=if z=.n then .n else .a) (by simp[hz]) (by simp[hz]) 0 (fun _=>Go.undef) (by simp) (by simp[flat]) (Ee _) (by omega) (by simp[flat]) (by simp[flat]) (fun h=>absurd h (by omega))
     ·rw[D5 hcl]
      refine Rep.sl (g:=g) (off:=off+l*(T e).size) (es:=[]) (cap:=cap-l) (z:=if z=.n then .n else .a) (by simp[hz]) (by simp[hz]) 0 (fun _=>Go.undef) (by simp) (by simp[flat]) (Ee _) (by omega) (by simp[flat]) (by simp[flat]) (fun _=>rfl)
    ·have hcl:cap≠l:=by omega
     rw[D5 hcl]
     suffices key:Rep G (.sl (if z=.n then .n else .a) ((es.drop l).take (hh-l))) (.slice (some ⟨g,off+l*(T e).size,none⟩) ((es.drop l).take (hh-l)).length (cap-l))by
      rw[hlen]at key;exact key
     have hkk:k=(T e).size:=by
      have hl':l<es.length:=by omega
      rw[←hk es[l] (E5 hl'),hke es[l] (E5 hl')]
     have hk':∀x∈es.drop l,x.cells.length=k:=fun x hx=>hk x (Fc hx)
     have hfl:flat ((es.drop l).take (hh-l))=((flat es).drop (l*k)).take ((hh-l)*k):=by rw[gV _ hk',md _ hk]
     refine Rep.sl (cap:=cap-l) (z:=if z=.n then .n else .a) (by simp[hz]) (by simp[hz]) k (fun j=>us (l*k+j)) (fun x hx=>hk' x (Ey hx)) (fun c hcm=>?_) (by rw[hlen];omega) (by omega) (fun j c hj=>?_) (fun j c hj=>?_) (fun _=>rfl)
     ·rw[hfl]at hcm
      exact hone c (Fc (Ey hcm))
     ·rw[hfl,El]at hj
      split at hj
      ·rw[EU]at hj
       rw[←hkk,FF];exact hS _ c hj
      ·cases hj
     ·rw[hfl,El]at hj
      split at hj
      ·rw[EU]at hj
       exact hr _ c hj
      ·cases hj
 ·rename_i e z es k1 m hd
  split at h <;> try (cases h;done)
  rename_i k2 hq;split at h <;> cases h
  rename_i hcnd;obtain⟨rfl,rfl,he⟩:=hcnd;have hu:=bB (hT t (by rw[hd];rfl)) hd
  rw[hlo' rfl];obtain⟨u1,rfl,hr1⟩:=hhi _ rfl;cases hr1;obtain⟨u2,rfl,hr2⟩:=hmx _ rfl;cases hr2;cases hx with
  |nils =>
   refine⟨.slice none 0 0,?_,by simpa using .nils⟩
   simp[Instr.sliceAt,Instr.slice,run_underlying hu,Instr.sliceBounds,Instr.sliceBound,asIntOf,g6 (hT e he)]
  |sl hz hf k us hk hone hcap hm hS hr hsp =>
   rename_i g off cap sp;refine⟨.slice (some ⟨g,off,sp⟩) 0 0,?_,?_⟩
   ·have:(0:Int)<=(cap:Int):=by omega
    simp[Instr.sliceAt,Instr.slice,run_underlying hu,Instr.sliceBounds,Instr.sliceBound,asIntOf,g6 (hT e he)]
   ·rw[D5 hz]
    exact Rep.sl (es:=[]) (by simp) (by simp) 0 (fun _=>Go.undef) (by simp) (by simp[flat]) (Ee _) (Ee _) (by simp[flat]) (by simp[flat]) (fun h=>absurd h (GZ 0))
def okS(T:TypeId->TyI)(t:TypeId):Bool :=
 match (T t).d with
 |.slice e=>(T e).d.ok
 |_=>false
def iW(T:TypeId->TyI)(sg:List Box)(t:TypeId)(x:PV)(lo hi mx:Option PV):Option PV :=
 match x,lo,hi with
 |.ms id n,none,some (.int _ h)=>match sg[id]? with
  |some (.row false _ _ es frz)=>match mx with
   |none=>if frz=false∧es.length=n∧(h+1=n∨h=0)∧0<=h∧okS T t=true then some (.pf id h.toNat n)else none
   |some (.int _ m)=>if es.length=n∧h=0∧m=0∧okS T t=true then some (.sl .f [])else none
   |_=>none
  |_=>none
 |.pf id d n,none,some (.int _ h)=>match sg[id]? with
  |some (.row false _ _ es _)=>match mx with
   |none=>if es.length=n∧0<=h∧h<=d∧okS T t=true then some (.pf id h.toNat n)else none
   |some (.int _ m)=>if es.length=n∧h=0∧m=0∧okS T t=true then some (.sl .f [])else none
   |_=>none
  |_=>none
 |_,_,_=>none
theorem kX(hT:TyT P T){t:TypeId}(hok:okS T t=true){g n cap:Nat}(hc:n<=cap){k:IntKind}{h:Int}{hiu:Option Value}(h0:0<=h)(hn:h<=n)(hhi:∀v,some (PV.int k h)=some v->∃u,hiu=some u∧Rep G v u):
 (Instr.sliceAt t (.slice (some ⟨g,0,none⟩) n cap) none hiu none).run P w=.ok (.slice (some ⟨g,0,none⟩) h.toNat cap) w:=by
 unfold okS at hok;split at hok
 ·rename_i e hd
  have hu:=bB (hT t (by rw[hd];rfl)) hd
  obtain⟨h1,_,_⟩:=uU (P:=P) (G:=G) (lo:=none) (lou:=none) (hi:=some (.int k h)) true (fun v e=>by cases e) (fun _=>rfl) hhi (fun e=>by cases e) hc (l:=0) (h:=h.toNat) (by simp[cutC,h0,hn]) w
  simp only[Instr.sliceAt,Instr.slice,Sem.run_bind,run_underlying hu,Result.andThen_ok,h1,g6 (hT e hok)];by_cases hc0:cap=0
  ·subst hc0;simp
  ·simp[gy]
 ·cases hok
theorem mj(hT:TyT P T){t:TypeId}(hok:okS T t=true){g n cap:Nat}{k k':IntKind}:(Instr.sliceAt t (.slice (some ⟨g,0,none⟩) n cap) none (some (.int k 0)) (some (.int k' 0))).run P w=.ok (.slice (some ⟨g,0,none⟩) 0 0) w:=by
 unfold okS at hok;split at hok
 ·rename_i e hd
  have hu:=bB (hT t (by rw[hd];rfl)) hd
  have:(0:Int)<=(cap:Int):=by omega
  simp[Instr.sliceAt,Instr.slice,run_underlying hu,Instr.sliceBounds,Instr.sliceBound,asIntOf,g6 (hT e hok)]
 ·cases hok
theorem rep_f0{g:Nat}:Rep G (.sl .f []) (.slice (some ⟨g,0,none⟩) 0 0) :=
 Rep.sl (es:=[]) (by simp) (by simp) 0 (fun _=>Go.undef) (by simp) (by simp[flat]) (Ee _) (Ee _) (by simp[flat]) (by simp[flat]) (fun h=>absurd h (GZ 0))
theorem wm(hT:TyT P T)(hR:Rel G sg w){t:TypeId}{x v:PV}{lo hi mx:Option PV}{u:Value}{lou hiu mxu:Option Value}(hx:Rep G x u)
 (hlo':lo=none->lou=none) (hhi:∀v,hi=some v->∃u,hiu=some u∧Rep G v u)
 (hmx:∀v,mx=some v->∃u,mxu=some u∧Rep G v u) (hmx':mx=none->mxu=none) (h:iW T sg t x lo hi mx=some v) :
 ∃u',(Instr.sliceAt t u lou hiu mxu).run P w=.ok u' w∧Rep G v u':=by
 unfold iW at h;split at h
 ·rename_i id n k q
  split at h <;> try (cases h;done)
  rename_i e k' es frz hb;rw[hlo' rfl];cases hx with
  |ms hs hle ho hv =>
   obtain⟨rfl,rfl,hz,hk,h1,⟨us,how,hL⟩,hS⟩:=hR.box id _ _ hs hb;obtain⟨g,cap,cur,rfl,hB,hh,hnc,hcm,hcs,htk⟩:=cG how (by intro e;rw[e]at hz;simp at hz)
   split at h
   ·split at h <;> cases h
    rename_i hc;rw[hmx' rfl];obtain rfl:=hv hc.2.1.symm;refine⟨_,kX hT hc.2.2.2.2 hnc hc.2.2.2.1 (by omega) hhi,.pf hs hle rfl fun _=>⟨by omega,rfl⟩⟩
   ·split at h <;> cases h
    rename_i hc;obtain⟨he,rfl,rfl,hok⟩:=hc;obtain rfl:=hv he.symm;obtain⟨u1,rfl,hr1⟩:=hhi _ rfl;cases hr1;obtain⟨u2,rfl,hr2⟩:=hmx _ rfl;cases hr2;exact⟨_,mj hT hok,rep_f0⟩
   ·cases h
 ·rename_i id d n k q
  split at h <;> try (cases h;done)
  rename_i e k' es frz hb;rw[hlo' rfl];split at h
  ·split at h <;> cases h
   rename_i hc;rw[hmx' rfl];obtain⟨hdm,v,us,hs,rfl,hz,hk,h1,how,hL,hS⟩:=gh hR hx hb hc.1;obtain⟨g,cap,cur,rfl,hB,hh,hnc,hcm,hcs,htk⟩:=cG how (by intro e;rw[e]at hz;simp at hz)
   refine⟨_,kX hT hc.2.2.2 (by omega) hc.2.1 hc.2.2.1 hhi,.pf hs (DS _) rfl fun _=>⟨by omega,rfl⟩⟩
  ·split at h <;> cases h
   rename_i hc;obtain⟨he,rfl,rfl,hok⟩:=hc;obtain⟨hdm,v,us,hs,rfl,hz,hk,h1,how,hL,hS⟩:=gh hR hx hb he;obtain⟨g,cap,cur,rfl,hB,hh,hnc,hcm,hcs,htk⟩:=cG how (by intro e;rw[e]at hz;simp at hz)
   obtain⟨u1,rfl,hr1⟩:=hhi _ rfl;cases hr1;obtain⟨u2,rfl,hr2⟩:=hmx _ rfl;cases hr2;exact⟨_,mj hT hok,rep_f0⟩
  ·cases h
 ·cases h
def cmpC(op:BinOp)(a b:Int):Option Bool :=
 match op with
 |.eql=>some (a==b)
 |.neq=>some (a != b)
 |.lss=>some (decide (a<b))
 |.leq=>some (decide (a<=b))
 |.gtr=>some (decide (a>b))
 |.geq=>some (decide (a≥b))
 |_=>none
def eqlC(T:TypeId->TyI)(sg:List Box)(t:TypeId)(yc:Bool)(x y:PV):Option Bool :=
 match (T t).d,x,y with
 |.slice _,.sl z _,.sl .n _=>some (z==.n)
 |.slice _,.ms id n,.sl .n _=>match sg[id]? with
  |some (.row z _ _ es _)=>if es.length=n then some z else none
  |_=>none
 |.slice _,.pf id _ n,.sl .n _=>match sg[id]? with
  |some (.row z _ _ es _)=>if es.length=n then some z else none
  |_=>none
 |.map _ _,.nilm,.nilm=>some true
 |.map _ _,.mp _,.nilm=>some false
 |.map _ _,.im .. ,.nilm=>some false
 |.fn,.nilf,.nilf=>some true
 |.fn,.fn ..,.nilf=>some false
 |.iface,.iface ..,.nili=>some false
 |.iface,.nili,.nili=>if yc then some true else none
 |d,x,y=>if d.ok=true∧x.ag=d.agg∧y.ag=d.agg then eqT (T t) x y else none
def binC(T:TypeId->TyI)(sg:List Box)(op:BinOp)(t:TypeId)(yc:Bool)(x y:PV):Option PV :=
 match x,y with
 |.int k a,.int k' b =>
  if k=k' then
   match op with
   |.add=>some (.int k (k.wrap (a+b)))
   |.sub=>some (.int k (k.wrap (a-b)))
   |.mul=>some (.int k (k.wrap (a*b)))
   |.quo=>if b=0 then none else some (.int k (k.wrap (a.tdiv b)))
   |.rem=>if b=0 then none else some (.int k (a.tmod b))
   |op=>match cmpC op a b with
    |some r=>some (.bool r)
    |none=>none
  else none
 |.str a,.str b=>match op with
  |.add=>if a.length+b.length<=maxLen then some (.str (a++b))else none
  |.eql=>some (.bool (a==b))
  |.neq=>some (.bool (a != b))
  |_=>none
 |x,y=>match op with
  |.eql=>match eqlC T sg t yc x y with
   |some r=>some (.bool r)
   |none=>none
  |.neq=>match eqlC T sg t yc x y with
   |some r=>some (.bool (!r))
   |none=>none
  |_=>none
theorem kO(a b:Int)(h:0<=a):a.tmod b<=a:=by
 have h1:(a.tmod b).natAbs=a.natAbs%b.natAbs:=Int.natAbs_tmod a b;have h2:=Int.tmod_nonneg b h;have h3:a.natAbs%b.natAbs<=a.natAbs:=Nat.mod_le _ _;omega
theorem wf_tmod{k:IntKind}{a b:Int}(ha:(Lit.int k a).wf=true)(hb:b≠0):(Lit.int k (a.tmod b)).wf=true:=by
 have h1:a.tmod b<=max a 0∧min a 0<=a.tmod b:=by
  rcases Int.le_total 0 a with h|h
  ·have h2:=Int.tmod_nonneg b h
   have h3:a.tmod b<=a:=kO a b h;omega
  ·have h2:=Int.tmod_nonneg b (show 0 <= -a by omega)
   have h3:(-a).tmod b <= -a:=kO (-a) b (by omega)
   rw[Int.neg_tmod]at h2 h3;omega
 simp only[Lit.wf,D3,Eo]at ha ⊢;have hz:k.min<=0∧0<=k.max:=by cases k <;> simp[IntKind.min,IntKind.max,IntKind.signed,IntKind.bits]
 omega
end
end Go.Pv
