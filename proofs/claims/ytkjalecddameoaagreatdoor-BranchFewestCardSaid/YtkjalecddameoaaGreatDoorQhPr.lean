import Derived.Test.YtkjalecddameoaaGreatDoorQfTry
import Derived.Test.YtkjalecddameoaaGreatDoorQfSort
set_option linter.all false
open Go.Proofs.Tryz
namespace Go.Pv
open Go Go.RowKit Go.Proofs
set_option maxRecDepth 200000
set_option maxHeartbeats 8000000
theorem in_132(x a b:Int):ab prog 132 [ii x,ii a,ii b] [] (.ret (.bool (inB x a b))) []:=by
 refine ab.of0 hTT func132 rfl rfl ?_;unfold inB;by_cases h1:a<=x <;> by_cases h2:x<=b
 all_goals
  repeat with_reducible first|refine nz aa ?_|apply ny;simp only[f132,EO,h1,h2,go_sem];rfl
  refine⟨rfl,rfl,_,rfl,?_⟩;simp only[h1,h2];rfl
theorem rG:al prog 132 cin:=al.of0 (ent func132 rfl) fun args sg r sg' h=>by
 unfold cin at h;split at h <;> cases h
 exact⟨_,rfl,rfl,rfl,in_132 _ _ _⟩
def wv(sg sg3:List Box)(v:PV):Option (PRes×List Box) :=
 let r:=gB sg.length v sg3
 if aR sg r.2=true then some (.ret r.1,r.2)else none
theorem lM{f:FuncId}{args:List PV}{sg sg3 sg':List Box}{v:PV}{r:PRes}(h:wv sg sg3 v=some (r,sg'))(hc:ab prog f args sg (.ret v) sg3):ab prog f args sg r sg'∧SameLoops sg sg':=by
 unfold wv at h;simp only at h;split at h <;> cases h
 rename_i hsl;exact⟨jF hc,aD _ _ hsl⟩
def c117(cf:CallF):List PV->List Box->Option (PRes×List Box)
 |[.fn (.func g) fa cap],sg=>match cf g (fa++([]++cap)) (sg++[.var [ii 0] false,.var [ii 0] false])with
  |some (.ret _,sg2)=>match sg2[sg.length]?,sg2[sg.length+1]? with
   |some (.var [_] false),some (.var [_] false)=>wv sg ((sg2.set sg.length (.var [ii 4] false)).set (sg.length+1) (.var [ii 0] false)) (.tuple [ii 4,ii 0])
   |_,_=>none
  |some (.pan (.iface 221 (.agg [.int .i64 n])),sg2)=>match sg2[sg.length]?,sg2[sg.length+1]? with
   |some (.var [_] false),some (.var [.int .i64 0] false)=>wv sg ((sg2++[Box.var [ii n] false]).set sg.length (.var [ii n] false)) (.tuple [ii n,ii 0])
   |_,_=>none
  |_=>none
 |_,_=>none
theorem xz{cf:CallF}(hcf:CallFOk prog cf):al prog 117 (c117 cf):=fun args sg r sg' h=>by
 unfold c117 at h;split at h <;> try (cases h;done)
 split at h <;> try (cases h;done)
 ·rename_i hc
  split at h <;> try (cases h;done)
  rename_i hb hd;obtain⟨h1,h2,h3⟩:=hcf _ _ _ _ _ hc;exact⟨ent func117 rfl,lM h (nC h1 h2 h3 hb hd)⟩
 ·rename_i hc
  split at h <;> try (cases h;done)
  rename_i hb hd;obtain⟨h1,h2,h3⟩:=hcf _ _ _ _ _ hc;exact⟨ent func117 rfl,lM h (nL (d:=ii 0) _ rfl h1 h2 h3 hb hd)⟩
def c177(cf:CallF):List PV->List Box->Option (PRes×List Box)
 |[.fn (.func g) fa cap],sg=>match cf g (fa++([]++cap)) (sg++[.var [ii 0,ii 0] false,.var [ii 0] false])with
  |some (.ret _,sg2)=>match sg2[sg.length]?,sg2[sg.length+1]? with
   |some (.var [_,_] false),some (.var [_] false)=>wv sg ((sg2.set sg.length (.var [ii 0,ii 0] false)).set (sg.length+1) (.var [ii 0] false)) (.tuple [.agg [ii 0,ii 0],ii 0])
   |_,_=>none
  |some (.pan (.iface 233 (.agg [.int .i64 n,.int .i64 m])),sg2)=>match sg2[sg.length]?,sg2[sg.length+1]? with
   |some (.var [_,_] false),some (.var [.int .i64 0] false)=>wv sg (((sg2++[Box.var [ii n,ii m] false]).set sg.length (.var [ii n,ii m] false)).set (sg.length+1) (.var [ii 5] false)) (.tuple [.agg [ii n,ii m],ii 5])
   |_,_=>none
  |_=>none
 |_,_=>none
theorem c177_ok{cf:CallF}(hcf:CallFOk prog cf):al prog 177 (c177 cf):=fun args sg r sg' h=>by
 unfold c177 at h;split at h <;> try (cases h;done)
 split at h <;> try (cases h;done)
 ·rename_i hc
  split at h <;> try (cases h;done)
  rename_i hb hd;obtain⟨h1,h2,h3⟩:=hcf _ _ _ _ _ hc;exact⟨ent func177 rfl,lM h (nA h1 h2 h3 hb hd)⟩
 ·rename_i hc
  split at h <;> try (cases h;done)
  rename_i hb hd;obtain⟨h1,h2,h3⟩:=hcf _ _ _ _ _ hc;exact⟨ent func177 rfl,lM h (nR (d:=ii 0) _ _ rfl h1 h2 h3 hb hd)⟩
def bf:CallF->FuncId->List PV->List Box->Option (Option (PRes×List Box)):=fun cf f args sg =>
 if f=177 then match c177 cf args sg with
  |some r=>some (some r)
  |none=>none
 else if f=132 then match cin args sg with
  |some r=>some (some r)
  |none=>none
 else none
theorem bu:cV prog bf:=fun cf hcf f args sg r sg' h=>by
 unfold bf at h;split at h
 ·rename_i hf
  subst hf;split at h <;> cases h
  rename_i h1;exact c177_ok hcf _ _ _ _ h1
 ·split at h
  ·rename_i hf
   subst hf;split at h <;> cases h
   rename_i h1;exact rG _ _ _ _ h1
  ·cases h
theorem ci{f:FuncId}{args:List PV}{v:PV}(k:Nat)(h:ev prog noM TT bf k (.call f args [])=some (.call (.ret v) [])):bC prog f∧ab prog f args [] (.ret v) []:=by
 have:=dC hTT cP mixed named bu h
 exact⟨this.1,this.2.1⟩
def nS:List PV:=[.agg [ii 0,ii 40,ii 50,.bool false,ii (-1)],.agg [ii 0,ii 20,ii 30,.bool true,ii (-1)],.agg [ii 1,ii 50,ii 60,.bool false,ii (-1)],.agg [ii 1,ii 30,ii 40,.bool true,ii (-1)],.agg [ii 2,ii 55,ii 70,.bool false,ii (-1)]]
def pln(a b:Int)(p:List Nat):PV:=.agg [ii 0,ii 60,ii 70,ii 120,ii 130,ii a,ii b,.sl .a (p.map fun i=>nS.getD i .nilp)]
def noP:PV:=.tuple [.sl .n [],.sl .n [],ii 5]
set_option maxRecDepth 100000
def zEq:Z->Z->Bool
 |.n,.n=>true
 |.f,.f=>true
 |.a,.a=>true
 |_,_=>false
mutual
def PV.eqB:PV->PV->Bool
 |.bool a,.bool b=>a==b
 |.int .i64 n,.int .i64 m=>decide (n=m)
 |.str a,.str b=>decide (a=b)
 |.agg a,.agg b=>eqBL a b
 |.sl z a,.sl y b=>zEq z y&&eqBL a b
 |_,_=>false
def eqBL:List PV->List PV->Bool
 |[],[]=>true
 |a::r,b::q=>a.eqB b&&eqBL r q
 |_,_=>false
end
theorem zEq_eq{a b:Z}(h:zEq a b=true):a=b:=by cases a <;> cases b <;> first|rfl|cases h
mutual
theorem eqB_eq:∀(a b:PV),a.eqB b=true->a=b
 |.bool x,b,h=>by
  cases b <;> first|(cases h;done)|skip
  rename_i y;have h':(x==y)=true:=h;rw[eq_of_beq h']
 |.int k n,b,h=>by
  cases k <;> cases b <;> first|(cases h;done)|skip
  rename_i k' m;cases k' <;> first|(cases h;done)|skip
  have h':decide (n=m)=true:=h;simp at h';rw[h']
 |.str s,b,h=>by
  cases b <;> first|(cases h;done)|skip
  rename_i t;have h':decide (s=t)=true:=h;simp at h';rw[h']
 |.agg s,b,h=>by
  cases b <;> first|(cases h;done)|skip
  rename_i t;have h':eqBL s t=true:=h;rw[pC s t h']
 |.sl z s,b,h=>by
  cases b <;> first|(cases h;done)|skip
  rename_i y t;have h':(zEq z y&&eqBL s t)=true:=h;rw[D3]at h';rw[zEq_eq h'.1,pC s t h'.2]
 |.nilp,b,h=>by cases b <;> cases h
 |.nilm,b,h=>by cases b <;> cases h
 |.nilf,b,h=>by cases b <;> cases h
 |.nili,b,h=>by cases b <;> cases h
 |.im _ _,b,h=>by cases b <;> cases h
 |.fn _ _ _,b,h=>by cases b <;> cases h
 |.iface _ _,b,h=>by cases b <;> cases h
 |.tuple _,b,h=>by cases b <;> cases h
 |.ip _,b,h=>by cases b <;> cases h
 |.ms _ _,b,h=>by cases b <;> cases h
 |.pf _ _ _,b,h=>by cases b <;> cases h
 |.mp _,b,h=>by cases b <;> cases h
 |.bp _ _,b,h=>by cases b <;> cases h
 |.rp _ _ _ _,b,h=>by cases b <;> cases h
 |.yl _,b,h=>by cases b <;> cases h
theorem pC:∀(a b:List PV),eqBL a b=true->a=b
 |[],b,h=>by cases b <;> first|rfl|cases h
 |x::a,b,h=>by
  cases b <;> first|(cases h;done)|skip
  rename_i y b;have h':(x.eqB y&&eqBL a b)=true:=h;rw[D3]at h';rw[eqB_eq x y h'.1,pC a b h'.2]
end
def findA(L:List (List PV×PV))(a:List PV):Option PV :=
 match L with
 |[]=>none
 |p::r=>if eqBL a p.1=true then some p.2 else findA r a
theorem qr:∀{L:List (List PV×PV)} {a:List PV} {v:PV},findA L a=some v->(a,v)∈L
 |[],_,_,h=>by cases h
 |p::r,a,v,h=>by
  unfold findA at h;split at h
  ·rename_i he
   cases h;obtain rfl:=pC _ _ he;exact DV
  ·exact DW _ (qr h)
def dc(L:List (List PV×PV)):List PV->List Box->Option (PRes×List Box):=fun a sg=>match findA L a with
 |some v=>some (.ret v,sg)
 |none=>none
theorem kC{f:FuncId}{L:List (List PV×PV)}(he:bC prog f)(h:∀p∈L,ab prog f p.1 [] (.ret p.2) [])(hc:(L.all fun p=>bD 0 p.1)=true):al prog f (dc L):=al.of0 he fun a sg r sg' e=>by
 unfold dc at e;split at e <;> cases e
 rename_i h1;have hm:=qr h1;exact⟨_,rfl,rfl,D7.1 hc _ hm,h _ hm⟩
theorem ab.pickAgr{P:Program}{f:FuncId}{args:List PV}{sg sg1:List Box}{id n:Nat}{e:TypeId}{k:Nat}{es:List PV}{c d:PV}(h:ab P f args sg (.ret (.agg [c,.ms id n,d])) sg1)(hc:c.closed=true)(hd:d.closed=true)(hb:sg1[id]?=some (.row false e k es false))(hm:sg.length<=id)
 (hlt:∀b∈sg1.take sg.length,b.Lt sg.length) (hes:∀c∈flat es,Pv.Lt sg.length c):ab P f args sg (.ret (.agg [c,.ms sg.length n,d])) (sg1.take sg.length++[.row false e k es false]):=by
 refine⟨by have:=h.1;simp;omega,fun q G w us hR hL=>CallsIn.mono (h.2 q G w us hR hL) fun x w' ⟨G',hR',hl,hdf,hv⟩=>?_⟩
 cases x with
 |panicked ch=>exact hv.elim
 |outgrown=>exact hv.elim
 |returned u =>
  obtain⟨G2,a1,a2,a3,a4⟩:=uw hR' hb hm hlt hes;refine⟨G2,a1,hl.trans a2 (DS _),a3.trans hdf,?_⟩;have hv:Rep G' (.agg [c,.ms id n,d]) u:=hv;cases hv with
  |agg hl2 h1 hr =>
   rename_i us2;refine .agg hl2 (fun x hx=>?_) fun j x u hx hu=>?_
   ·simp only[D6,Eb,EM]at hx
    rcases hx with rfl|rfl|rfl
    ·exact h1 _ (by simp)
    ·rfl
    ·exact h1 _ (by simp)
   ·match j,hx with
    |0,hx =>
     cases hx;exact(hr 0 c u rfl hu).monoM a2 ((av _ hc).mono (Ee _))
    |1,hx =>
     cases hx;exact a4 n u (hr 1 _ u rfl hu)
    |2,hx =>
     cases hx;exact(hr 2 d u rfl hu).monoM a2 ((av _ hd).mono (Ee _))
    |j+3,hx=>cases hx
def rS:List PV:=[.agg [ii 0,.sl .f [ii 3,ii 1,ii 7]],.agg [ii 1,.sl .f [ii 4,ii 2]],.agg [ii 1,.sl .f [ii 2]],.agg [ii 2,.sl .f [ii 5]],.agg [ii 2,.sl .f [ii 5,ii 6]],.agg [ii 2,.sl .f [ii 6]]]
def sc3(b:Bool):List PV:=[bF ⟨0,40,50,false,true⟩,bF ⟨0,20,30,true,false⟩,bF ⟨1,50,60,false,b⟩,bF ⟨1,30,40,true,false⟩,bF ⟨2,55,70,false,true⟩]
theorem S_81r:ab prog 81 [] [.var [ii 0,.sl .n [],.sl .n []] false] (.ret (.agg [ii 3,.ms 1 5,.sl .f rS])) [.var [ii 0,.sl .n [],.sl .n []] false,.row false 120 5 (sc3 false) false]:=by
 have hrun:am prog (match f81.body with|some c=>c|none=>.skip) ⟨ik 0 [],21,[.var [ii 0,.sl .n [],.sl .n []] false]⟩ (fun o st'=>o.ends=true∧si TT st' f81.results=some (.agg [ii 3,.ms 2 5,.sl .f rS])∧st'.sg=[.var [ii 0,.sl .n [],.sl .n []] false,.var [ii 3,.ms 2 5,.sl .f rS] false,.row false 120 5 (sc3 false) false]):=by
  show am prog (Code.seq _ _) _ _;repeat with_reducible first|(fail_if_success refine am.seq (x:=.region 1 _ _) ?_);(fail_if_success show am _ (.region 1 _ _) _ _);refine nz aa ?_|apply ny;simp only[f81,go_sem];rfl
  refine am.seq ?_;refine am.regG hTT aa cP ?_
  iterate 5 (apply kI.step;(focus (simp only[f81,go_sem];with_reducible rfl)))
  refine kI.buildRow (t:=22) (e:=120) (len:=5) (d:=6) (es:=sc3 false) (by simp only[go_sem]) rfl rfl rfl rfl rfl rfl rfl ?_
  iterate 15 (apply kI.step;(focus (simp only[f81,go_sem];with_reducible rfl)))
  refine kI.nil ?_;refine iM.n ?_;repeat with_reducible first|refine nz aa ?_|apply ny;simp only[f81,go_sem];rfl
  exact⟨rfl,rfl,rfl⟩
 obtain⟨o,st',hr,h1,h2,h3⟩:=hrun;have hb:=ab.body hTT (args:=[]) func81 (c:=match f81.body with|some c=>c|none=>.skip) rfl rfl hr h1 h2 (by rw[h3];exact aD _ _ rfl)
 rw[h3]at hb;exact hb.pickAgr (id:=2) rfl rfl rfl (by simp) (fun b hb=>by
  simp at hb;subst hb;exact fun c hc=>(aB _ (show ad [ii 0,.sl .n [],.sl .n []]=true from rfl) c hc).mono (Ee _)) (fun c hc=>(aB _ (show ad (flat (sc3 false))=true from rfl) c hc).mono (Ee _))
def tT:PV:=.agg [ii 3,.sl .a (sc3 true),.sl .f rS]
theorem AJ:ab prog 82 [] [] (.ret tT) []:=by
 refine ab.ofF hTT func82 rfl rfl ?_;have hsl:SameLoops [Box.var [ii 0,.sl .n [],.sl .n []] false] [Box.var [ii 0,.sl .n [],.sl .n []] false,.row false 120 5 (sc3 false) false]:=aD _ _ rfl;repeat with_reducible first|refine nz (ar aa (ent func81 rfl) S_81r hsl) ?_|apply ny;simp only[f82,cp,sc3,bF,d9,go_sem];rfl
 exact⟨rfl,rfl,.agg [ii 3,.ms 1 5,.sl .f rS],rfl,by kernel_rfl⟩
def c82:Tb_
 |[],sg=>some (.ret tT,sg)
 |_,_=>none
theorem c82_ok:al prog 82 c82:=al.of0 (ent func82 rfl) fun args sg r sg' h=>by
 unfold c82 at h;split at h <;> cases h
 exact⟨_,rfl,rfl,rfl,AJ⟩
end Go.Pv
