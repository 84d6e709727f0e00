import Derived.Test.YtmebonambbhehaaGreatQfTry
import Derived.Test.YtmebonambbhehaaGreatQfSort
set_option linter.all false
open Go.Proofs.Tryz
namespace Go.Pv
open Go Go.RowKit Go.Proofs
set_option maxRecDepth 200000
set_option maxHeartbeats 8000000
theorem in_132(x a b:Int):ab prog 94 [ii x,ii a,ii b] [] (.ret (.bool (inB x a b))) []:=by
 refine ab.of0 hTT func94 rfl rfl ?_;unfold inB;by_cases h1:a<=x <;> by_cases h2:x<=b
 all_goals
  repeat with_reducible first|refine nz aa ?_|apply ny;simp only[f94,EO,h1,h2,go_sem];rfl
  refine⟨rfl,rfl,_,rfl,?_⟩;simp only[h1,h2];rfl
theorem rG:dU prog 94 cin:=dU.of0 (ent func94 rfl) fun args sg r sg' h=>by
 unfold cin at h;split at h <;> cases h
 exact⟨_,rfl,rfl,rfl,in_132 _ _ _⟩
def wv(sg sg3:List Box)(v:PV):Option (PRes×List Box) :=
 let r:=gB sg.length v sg3
 if aR sg r.2=true then some (.ret r.1,r.2)else none
theorem lM{f:FuncId}{args:List PV}{sg sg3 sg':List Box}{v:PV}{r:PRes}(h:wv sg sg3 v=some (r,sg'))(hc:ab prog f args sg (.ret v) sg3):ab prog f args sg r sg'∧SameLoops sg sg':=by
 unfold wv at h;simp only at h;split at h <;> cases h
 rename_i hsl;exact⟨jF hc,aD _ _ hsl⟩
def c117(cf:CallF):List PV->List Box->Option (PRes×List Box)
 |[.fn (.func g) fa cap],sg=>match cf g (fa++([]++cap)) (sg++[.var [ii 0] false,.var [ii 0] false])with
  |some (.ret _,sg2)=>match sg2[sg.length]?,sg2[sg.length+1]? with
   |some (.var [_] false),some (.var [_] false)=>wv sg ((sg2.set sg.length (.var [ii 4] false)).set (sg.length+1) (.var [ii 0] false)) (.tuple [ii 4,ii 0])
   |_,_=>none
  |some (.pan (.iface 186 (.agg [.int .i64 n])),sg2)=>match sg2[sg.length]?,sg2[sg.length+1]? with
   |some (.var [_] false),some (.var [.int .i64 0] false)=>wv sg ((sg2++[Box.var [ii n] false]).set sg.length (.var [ii n] false)) (.tuple [ii n,ii 0])
   |_,_=>none
  |_=>none
 |_,_=>none
theorem c117_ok{cf:CallF}(hcf:CallFOk prog cf):dU prog 92 (c117 cf):=fun args sg r sg' h=>by
 unfold c117 at h;split at h <;> try (cases h;done)
 split at h <;> try (cases h;done)
 ·rename_i hc
  split at h <;> try (cases h;done)
  rename_i hb hd;obtain⟨h1,h2,h3⟩:=hcf _ _ _ _ _ hc;exact⟨ent func92 rfl,lM h (nC h1 h2 h3 hb hd)⟩
 ·rename_i hc
  split at h <;> try (cases h;done)
  rename_i hb hd;obtain⟨h1,h2,h3⟩:=hcf _ _ _ _ _ hc;exact⟨ent func92 rfl,lM h (nL (d:=ii 0) _ rfl h1 h2 h3 hb hd)⟩
def c177(cf:CallF):List PV->List Box->Option (PRes×List Box)
 |[.fn (.func g) fa cap],sg=>match cf g (fa++([]++cap)) (sg++[.var [ii 0,ii 0] false,.var [ii 0] false])with
  |some (.ret _,sg2)=>match sg2[sg.length]?,sg2[sg.length+1]? with
   |some (.var [_,_] false),some (.var [_] false)=>wv sg ((sg2.set sg.length (.var [ii 0,ii 0] false)).set (sg.length+1) (.var [ii 0] false)) (.tuple [.agg [ii 0,ii 0],ii 0])
   |_,_=>none
  |some (.pan (.iface 166 (.agg [.int .i64 n,.int .i64 m])),sg2)=>match sg2[sg.length]?,sg2[sg.length+1]? with
   |some (.var [_,_] false),some (.var [.int .i64 0] false)=>wv sg (((sg2++[Box.var [ii n,ii m] false]).set sg.length (.var [ii n,ii m] false)).set (sg.length+1) (.var [ii 5] false)) (.tuple [.agg [ii n,ii m],ii 5])
   |_,_=>none
  |_=>none
 |_,_=>none
theorem c177_ok{cf:CallF}(hcf:CallFOk prog cf):dU prog 99 (c177 cf):=fun args sg r sg' h=>by
 unfold c177 at h;split at h <;> try (cases h;done)
 split at h <;> try (cases h;done)
 ·rename_i hc
  split at h <;> try (cases h;done)
  rename_i hb hd;obtain⟨h1,h2,h3⟩:=hcf _ _ _ _ _ hc;exact⟨ent func99 rfl,lM h (nA h1 h2 h3 hb hd)⟩
 ·rename_i hc
  split at h <;> try (cases h;done)
  rename_i hb hd;obtain⟨h1,h2,h3⟩:=hcf _ _ _ _ _ hc;exact⟨ent func99 rfl,lM h (nR (d:=ii 0) _ _ rfl h1 h2 h3 hb hd)⟩
def bf:CallF->FuncId->List PV->List Box->Option (Option (PRes×List Box)):=fun cf f args sg =>
 if f=99 then match c177 cf args sg with
  |some r=>some (some r)
  |none=>none
 else if f=94 then match cin args sg with
  |some r=>some (some r)
  |none=>none
 else none
theorem bu:nt prog bf:=fun cf hcf f args sg r sg' h=>by
 unfold bf at h;split at h
 ·rename_i hf
  subst hf;split at h <;> cases h
  rename_i h1;exact c177_ok hcf _ _ _ _ h1
 ·split at h
  ·rename_i hf
   subst hf;split at h <;> cases h
   rename_i h1;exact rG _ _ _ _ h1
  ·cases h
theorem ci{f:FuncId}{args:List PV}{v:PV}(k:Nat)(h:ev prog noM TT bf k (.call f args [])=some (.call (.ret v) [])):bC prog f∧ab prog f args [] (.ret v) []:=by
 have:=dC hTT cP mixed named bu h
 exact⟨this.1,this.2.1⟩
def nS:List PV:=[.agg [ii 0,ii 40,ii 50,.bool false,ii (-1)],.agg [ii 0,ii 20,ii 30,.bool true,ii (-1)],.agg [ii 1,ii 50,ii 60,.bool false,ii (-1)],.agg [ii 1,ii 30,ii 40,.bool true,ii (-1)],.agg [ii 2,ii 55,ii 70,.bool false,ii (-1)]]
def pln(a b:Int)(p:List Nat):PV:=.agg [ii 0,ii 60,ii 70,ii 120,ii 130,ii a,ii b,.sl .a (p.map fun i=>nS.getD i .nilp)]
def noP:PV:=.tuple [.sl .n [],.sl .n [],ii 5]
set_option maxRecDepth 100000
def zEq:Z->Z->Bool
 |.n,.n=>true
 |.f,.f=>true
 |.a,.a=>true
 |_,_=>false
mutual
def PV.eqB:PV->PV->Bool
 |.bool a,.bool b=>a==b
 |.int .i64 n,.int .i64 m=>decide (n=m)
 |.str a,.str b=>decide (a=b)
 |.agg a,.agg b=>eqBL a b
 |.sl z a,.sl y b=>zEq z y&&eqBL a b
 |_,_=>false
def eqBL:List PV->List PV->Bool
 |[],[]=>true
 |a::r,b::q=>a.eqB b&&eqBL r q
 |_,_=>false
end
theorem zEq_eq{a b:Z}(h:zEq a b=true):a=b:=by cases a <;> cases b <;> first|rfl|cases h
mutual
theorem eqB_eq:∀(a b:PV),a.eqB b=true->a=b
 |.bool x,b,h=>by
  cases b <;> first|(cases h;done)|skip
  rename_i y;have h':(x==y)=true:=h;rw[eq_of_beq h']
 |.int k n,b,h=>by
  cases k <;> cases b <;> first|(cases h;done)|skip
  rename_i k' m;cases k' <;> first|(cases h;done)|skip
  have h':decide (n=m)=true:=h;simp at h';rw[h']
 |.str s,b,h=>by
  cases b <;> first|(cases h;done)|skip
  rename_i t;have h':decide (s=t)=true:=h;simp at h';rw[h']
 |.agg s,b,h=>by
  cases b <;> first|(cases h;done)|skip
  rename_i t;have h':eqBL s t=true:=h;rw[pC s t h']
 |.sl z s,b,h=>by
  cases b <;> first|(cases h;done)|skip
  rename_i y t;have h':(zEq z y&&eqBL s t)=true:=h;rw[D3]at h';rw[zEq_eq h'.1,pC s t h'.2]
 |.nilp,b,h=>by cases b <;> cases h
 |.nilm,b,h=>by cases b <;> cases h
 |.nilf,b,h=>by cases b <;> cases h
 |.nili,b,h=>by cases b <;> cases h
 |.im _ _,b,h=>by cases b <;> cases h
 |.fn _ _ _,b,h=>by cases b <;> cases h
 |.iface _ _,b,h=>by cases b <;> cases h
 |.tuple _,b,h=>by cases b <;> cases h
 |.ip _,b,h=>by cases b <;> cases h
 |.ms _ _,b,h=>by cases b <;> cases h
 |.pf _ _ _,b,h=>by cases b <;> cases h
 |.mp _,b,h=>by cases b <;> cases h
 |.bp _ _,b,h=>by cases b <;> cases h
 |.rp _ _ _ _,b,h=>by cases b <;> cases h
 |.yl _,b,h=>by cases b <;> cases h
theorem pC:∀(a b:List PV),eqBL a b=true->a=b
 |[],b,h=>by cases b <;> first|rfl|cases h
 |x::a,b,h=>by
  cases b <;> first|(cases h;done)|skip
  rename_i y b;have h':(x.eqB y&&eqBL a b)=true:=h;rw[D3]at h';rw[eqB_eq x y h'.1,pC a b h'.2]
end
def findA(L:List (List PV×PV))(a:List PV):Option PV :=
 match L with
 |[]=>none
 |p::r=>if eqBL a p.1=true then some p.2 else findA r a
theorem MY:∀{L:List (List PV×PV)} {a:List PV} {v:PV},findA L a=some v->(a,v)∈L
 |[],_,_,h=>by cases h
 |p::r,a,v,h=>by
  unfold findA at h;split at h
  ·rename_i he
   cases h;obtain rfl:=pC _ _ he;exact DV
  ·exact DW _ (MY h)
def dc(L:List (List PV×PV)):List PV->List Box->Option (PRes×List Box):=fun a sg=>match findA L a with
 |some v=>some (.ret v,sg)
 |none=>none
theorem LU{f:FuncId}{L:List (List PV×PV)}(he:bC prog f)(h:∀p∈L,ab prog f p.1 [] (.ret p.2) [])(hc:(L.all fun p=>bD 0 p.1)=true):dU prog f (dc L):=dU.of0 he fun a sg r sg' e=>by
 unfold dc at e;split at e <;> cases e
 rename_i h1;have hm:=MY h1;exact⟨_,rfl,rfl,D7.1 hc _ hm,h _ hm⟩
def rS:List PV:=[.agg [ii 0,.sl .f [ii 3,ii 1,ii 7]],.agg [ii 1,.sl .f [ii 4,ii 2]],.agg [ii 1,.sl .f [ii 2]],.agg [ii 2,.sl .f [ii 5]],.agg [ii 2,.sl .f [ii 5,ii 6]],.agg [ii 2,.sl .f [ii 6]]]
def sc3(b:Bool):List PV:=[bF ⟨0,40,50,false,true⟩,bF ⟨0,20,30,true,false⟩,bF ⟨1,50,60,false,b⟩,bF ⟨1,30,40,true,false⟩,bF ⟨2,55,70,false,true⟩]
def tT:PV:=.agg [ii 3,.sl .a (sc3 true),.sl .f rS]
end Go.Pv
