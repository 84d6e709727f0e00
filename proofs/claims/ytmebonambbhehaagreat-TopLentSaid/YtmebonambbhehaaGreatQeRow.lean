import Derived.Test.YtmebonambbhehaaGreatRows
import Derived.Lay
import Derived.LaidSub
import Derived.LaidOnce
import Derived.Stop.Joined
import Derived.ChangeSame
import Derived.ChangeVars
import Derived.JoinedOf
import Derived.Lib.LaidTab
import Derived.MakeChecks
import Derived.ProofKit
import Derived.Test.YtmebonambbhehaaGreatQcEval
set_option linter.all false
open Go.Proofs.Tryz
namespace Go.Pv
set_option maxRecDepth 100000
open Go Go.RowKit Go.ChangeShapes Go.WideShapes Go.Proofs
section
variable {H:Type} {enc:TypeId×Value->H} {P:Program}
theorem shp_one{d:Nat}{t:TypeId}{s:TS}(hs:tsOf P d t=some s)(hag:xe P t=false){pcs:List PV}(h:s.shp pcs):∃c,pcs=[c]:=by
 unfold xe at hag;cases d with
 |zero=>cases hs
 |succ d =>
  unfold tsOf at hs;split at hs
  ·cases hs;obtain⟨b,rfl⟩:=(show ∃b,pcs=[.bool b]from h);exact⟨_,rfl⟩
  ·cases hs;obtain⟨b,rfl,_⟩:=(show ∃n,pcs=[.int _ n]∧_ from h);exact⟨_,rfl⟩
  ·cases hs;obtain⟨b,rfl,_⟩:=(show ∃s,pcs=[.str s]∧_ from h);exact⟨_,rfl⟩
  ·split at hs <;> try (cases hs;done)
   split at hs <;> cases hs
   obtain⟨z,es,rfl,_⟩:=(show ∃z es,pcs=[.sl z es]∧_ from h);exact⟨_,rfl⟩
  ·rename_i hu
   rw[hu]at hag;cases hag
  ·rename_i hu
   rw[hu]at hag;cases hag
  ·cases hs
theorem arg_rep{W:World}{r:Reach}{base d:Nat}{t:TypeId}{s:TS}{v:Value}{dd:DataW H}{p:List MemPlace}(hs:tsOf P d t=some s)(hok:Value.okWide P W r base t v)(ht:DataW.Trod enc P W 0 (fun _=>true) true t v dd p):
 ∃pv,Rep (Gh.init W) pv v∧s.shp pv.cells∧pv.ag=xe P t:=by
 obtain⟨fuel,ht⟩:=ht;obtain⟨pcs,hL,h1,hsh⟩:=ly (G:=Gh.init W) (fun g o v e=>e) d t s fuel v.cells.toList (dd,p) hs ht
 cases hag:xe P t with
 |true =>
  have:∃cs,v=.agg cs:=by
   unfold xe at hag;unfold Value.okWide at hok;split at hok
   ·obtain⟨cs,e,_⟩:=hok;exact⟨cs,e⟩
   ·obtain⟨cs,e,_⟩:=hok;exact⟨cs,e⟩
   ·rename_i hn1 hn2
    exfalso
    split at hag
    ·exact hn1 _ ‹_›
    ·exact hn2 _ _ ‹_›
    ·cases hag
  obtain⟨cs,rfl⟩:=this;exact⟨.agg pcs,.agg (by simpa[Value.cells]using hL.1) h1 fun j c u hc hu=>hL.2 j c u hc (by simpa[Value.cells]using hu),hsh,rfl⟩
 |false =>
  obtain⟨c,rfl⟩:=shp_one hs hag hsh;have hc1:=h1 c (Ed.2 rfl);have hcell:v.cells.toList=[v]:=by
   unfold Value.okWide at hok;split at hok
   ·rename_i hu;unfold xe at hag;rw[hu]at hag;cases hag
   ·rename_i hu;unfold xe at hag;rw[hu]at hag;cases hag
   ·cases v <;> first|rfl|skip
    unfold Cell.okWide Cell.ok at hok;generalize P.underlying t=y at hok;cases y with
    |none=>exact hok.elim
    |some d=>cases d <;> exact hok.elim
  have hcc:=mC hc1;refine⟨c,hL.2 0 c v rfl (by rw[hcell];rfl),by rw[hcc];exact hsh,?_⟩
  cases c <;> first|rfl|cases hc1
def shpA:List (TS×Bool)->List PV->Prop
 |[],[]=>True
 |s::r,v::q=>(s.1.shp v.cells∧v.ag=s.2)∧shpA r q
 |_,_=>False
def vc(P:Program):List TypeId->Option (List (TS×Bool))
 |[]=>some []
 |t::ts=>match tsOf P 8 t,vc P ts with
  |some s,some r=>some ((s,xe P t)::r)
  |_,_=>none
theorem ue{W:World}{r:Reach}{base:Nat}:∀(ts:List TypeId) (sh:List (TS×Bool)) (vs:List Value) (ds:List (DataW H)) (p:List MemPlace),vc P ts=some sh->DataW.TrodAll enc P W 0 (fun _=>true) true ts vs ds p ->
 (∀(j:Nat) (t:TypeId) (v:Value),ts[j]?=some t->vs[j]?=some v->Value.okWide P W r base t v)->∃pvs,nf (Gh.init W) pvs vs∧shpA sh pvs∧ds.length=ts.length
 |[],sh,[],[],p,h,_,_=>by
  cases h;exact⟨[],⟨rfl,fun j c u hc=>by simp at hc⟩,trivial,rfl⟩
 |t::ts,sh,v::vs,d::ds,p,h,ht,hok=>by
  unfold vc at h;split at h <;> try (cases h;done)
  rename_i s r' hs hr;cases h;obtain⟨p1,p2,h1,h2,_⟩:=ht;obtain⟨pv,a1,a2,a3⟩:=arg_rep hs (hok 0 t v rfl rfl) h1;obtain⟨pvs,b1,b2,b3⟩:=ue ts r' vs ds p2 hr h2 (fun j t' v' e1 e2=>hok (j+1) t' v' (by simpa using e1) (by simpa using e2))
  exact⟨pv::pvs,(eT a1).append b1,⟨⟨a2,a3⟩,b2⟩,by simp[b3]⟩
 |[],_,_::_,_,_,_,ht,_=>ht.elim
 |[],_,[],_::_,_,_,ht,_=>ht.elim
 |_::_,_,[],_,_,_,ht,_=>ht.elim
 |_::_,_,_::_,[],_,_,ht,_=>ht.elim
theorem jO(hl:laidOutB P=true){W W':World}(hb:Below W.heap.size W W'):∀(ts:List TypeId) (vs:List Value) (ds:List (DataW H)) (p:List MemPlace),(ts.all fun t=>P.readableRec t&&decide (t<P.types.size))=true->DataW.TrodAll enc P W 0 (fun _=>true) true ts vs ds p ->
 (∀x∈p,x.block<W.heap.size)->DataW.TrodAll enc P W' 0 (fun b=>decide (b<W.heap.size)) true ts vs ds p
 |[],[],[],p,_,h,_=>h
 |t::ts,v::vs,d::ds,p,hr,h,hlt=>by
  obtain⟨p1,p2,h1,h2,rfl⟩:=h;rw[Fv,D3]at hr;have hr1:P.readableRec t=true∧t<P.types.size:=by simpa using hr.1
  exact⟨p1,p2,Below.trod hl hr1.1 hr1.2 h1 hb (fun x hx=>hlt x (EY _ hx)),jO hl hb ts vs ds p2 hr.2 h2 (fun x hx=>hlt x (Fp _ hx)),rfl⟩
 |[],[],_::_,_,_,h,_=>h.elim
 |[],_::_,_,_,_,h,_=>h.elim
 |_::_,[],_,_,_,h,_=>h.elim
 |_::_,_::_,[],_,_,h,_=>h.elim
end
theorem vT{f:FuncId}{fn:Func}{s:ChangeSpec}{sh:List (TS×Bool)}{ts:List TypeId}(hf:prog.funcs[f]?=some fn)(noInit:prog.inits.idxOf? f=none)(hts:fn.params.toList=ts)(hres:fn.resultTypes=#[4])(hv:s.vars=[])
 (hsh:vc prog ts=some sh) (hread:(ts.all fun t=>prog.readableRec t&&decide (t<prog.types.size))=true)
 (hsp:∀(H:Type) (ds:List (DataW H)),ds.length=ts.length->(s.fn H ds).results=[.lit (.bool true)]∧(s.fn H ds).args=ds∧(s.fn H ds).vars=[])
 (hlaw:∀pvs,shpA sh pvs->ab prog f pvs [] (.ret (.bool true)) [])
 (os:Os) (started:os.Started) (H:Type) (enc:TypeId×Value->H)
 (witness:∃(w:World) (tape:Tape) (i:Input),w.os=os∧(w.forCall tape i).Shaped prog∧i.vars=[]∧Input.okWide prog (w.forCall tape i) .any w.heap.size f i ∧
  ((s.pre enc prog fn [] false (w.forCall tape i).memory i.args∧True)∧sizedMet enc prog fn (OpenSpec.ofChange s) false (w.forCall tape i).memory i.args)∧({}:Assume).holds prog (lone (Frame.enter prog f i.args .normal) [] (w.forCall tape i))) :
 ReturnsInHanded {} checked os f .any (fun w args=>s.pre enc prog fn [] false w args∧sizedMet enc prog fn (OpenSpec.ofChange s) false w args)
  (s.post enc prog fn false true false false):=by
 have own:ownKnob prog.godebug=none:=by kernel_rfl
 refine returnsInHanded_of_calls (C:=checked) own started noInit (let ⟨w,tape,i,a1,a2,a3,a4,a5,a6⟩:=witness;⟨w,tape,i,a1,a2,a3,a4,⟨a5.1.1,a5.2⟩,a6⟩) ?_
 intro w tape i _ hshape _ hok hpre _;obtain⟨_,_,_,fn',hfn',_,_,_,hsz,hval⟩:=hok;have e:fn'=fn:=Option.some.inj (hfn'.symm.trans hf);subst e;obtain⟨⟨ds,gs,before,hw,_⟩,_⟩:=hpre;have hW:=DataW.Whole.of_heap (w':=w.forCall tape i) (by rfl) hw
 have htab:TabOk (w.forCall tape i):=trivial;have hW':=hW;obtain⟨p,q,hA,hV,hbe,_,_⟩:=hW;rw[hts]at hA;rw[hv]at hV;obtain⟨rfl,rfl⟩:=trodVars_none hV;simp only[Er]at hbe;subst hbe;obtain⟨pvs,h1,h2,h3⟩:=ue ts sh i.args.toList ds before hsh hA (fun j t v e1 e2=>hval j t v (by rw[←hts]at e1;simpa using e1) (by simpa using e2))
 have hL0:RepL (Gh.init (w.forCall tape i)) pvs i.args:=⟨by simpa using h1.1,fun j c u hc hu=>h1.2 j c u hc (by simpa using hu)⟩
 refine(calls_of htab (hlaw pvs h2) hL0).mono fun e W' ⟨he,hb⟩=>?_
 subst he;obtain⟨s1,s2,s3⟩:=hsp H ds (by simpa using h3)
 have hlt:∀x∈before,x.block<(w.forCall tape i).heap.size:=fun x hx=>by simpa using hW'.lt x hx
 refine ChangeSpec.post_blind ⟨ds,[],before,[],before,[],hW',?_,?_,?_,hb.frame _,fun h=>by cases h⟩
 ·rw[Er,s1,hres]
  exact trodAll_mk1 (shut_bool (by kernel_rfl) true)
 ·rw[Er,s2,hts]
  exact jO (by kernel_rfl) hb ts _ ds before hread hA hlt
 ·rw[Er,s3,hv];rfl
end Go.Pv
