import Derived.Test.YtmebonambbhehaaGreatQdSort
import Derived.Test.YtmebonambbhehaaGreatQfLem
set_option linter.all false
open Go.Proofs.Tryz
namespace Go.Pv
open Go Go.RowKit Go.Proofs Go.Shelf Go.Sort
def vU(a b:List Int):Int:=if aV a b=true then -1 else if a=b then 0 else 1
theorem cmpL_lt(a b:List Int):decide (vU a b<0)=aV a b:=by
 unfold vU;cases h:aV a b
 ·split <;> first|contradiction|skip
  split <;> simp
 ·simp
theorem rZ{a b c:List Int}(h:aV a b=false)(k:aV b c=false):aV a c=false:=by
 cases hac:aV a c with
 |false=>rfl
 |true =>
  by_cases e1:a=b
  ·subst e1;rw[k]at hac;cases hac
  by_cases e2:b=c
  ·subst e2;rw[h]at hac;cases hac
  have h1:=eG a b h e1;have h2:=eG b c k e2;have:=dv _ _ _ hac (dv _ _ _ h2 h1)
  rw[cA]at this;cases this
def slx(x:List Int):PV:=.sl .a (x.map ii)
theorem nX(x:List Int):(slx x).closed=true:=cV x
theorem aC(l:List (List Int)):ad (l.map slx)=true:=aY nX l
theorem pm:∀l:List (List Int),flat (l.map slx)=l.map slx
 |[]=>rfl
 |a::l=>by rw[EE,bg,pm l];rfl
variable {P:Program}
set_option maxHeartbeats 4000000 in
theorem ab.sortLists{ρ:Ren}(L:SlLaysF.n6 P ρ){g:Nat}(eg:∀args w,(callFunc g args).run P w=.ok (.enter g args) w){l:List (List Int)}(hne:l≠[])(hnd:l.Nodup)(hlen:l.length<4611686018427387904)
 (hc:∀a∈l,∀b∈l,ab P g [slx a,slx b] [] (.ret (.int .i64 (vU a b))) [])
 {sg:List Box} {bi:Nat} {e:TypeId} (hb:sg[bi]?=some (.row false e 1 (l.map slx) false)) {n:Nat} (hn:n=l.length) :
 ab P (ρ.f 6) [.ms bi n,.fn (.func g) [] []] sg (.ret (.tuple [])) (sg.set bi (.row false e 1 ((cg l).map slx) false)):=by
 subst hn;refine⟨by simp,fun m G w us hR hL=>?_⟩
 obtain⟨u,v,rfl,hu,hv⟩:=args2 hL;cases hv with
 |fn hf h1 h2 =>
 rename_i us vs _ _;obtain rfl:us=#[]:=FV h1;obtain rfl:vs=#[]:=FV h2;cases hu with
 |ms hs hle ho huv =>
 rename_i m' k v;have box:=hR.box bi _ _ hs hb;obtain⟨rfl,hml,hz,hk,h1',⟨us,hown,hLs⟩,hS⟩:=box;rw[DX]at hml;subst hml;obtain rfl:=huv rfl;have hn0:0<l.length:=Gk.2 hne;rcases hown.2 with ⟨rfl,hl0⟩|⟨b,cap,cur,rfl,hbase,hheap,hcap,hmax,hcs,htk⟩
 ·omega
 letI:Inhabited (Fin l.length):=⟨⟨0,hn0⟩⟩
 have hul:us.length=l.length:=by have:=hown.1;simpa using this
 obtain⟨enc,henc⟩:∃enc:Fin l.length->Value,enc=fun i=>us.getD i.1 default:=⟨_,rfl⟩
 obtain⟨sx,hsx⟩:∃sx:Fin l.length->PV,sx=fun i=>slx l[i.1]:=⟨_,rfl⟩
 have hug:∀i:Fin l.length,us[i.1]?=some (enc i):=fun i=>by
  rw[henc];show _=some (us.getD i.1 default);rw[Ep,DT (by omega)];rfl
 have hrep:∀i:Fin l.length,Rep G (sx i) (enc i):=fun i=>by
  refine hLs.2 i.1 _ _ ?_ (by have:=hug i;simpa using this)
  rw[pm,Eh,DT i.2,hsx];rfl
 have hone:∀i,(enc i).oneCell'=true:=fun i=>by
  have h:=hrep i;rw[hsx]at h;have h:Rep G (PV.sl .a (l[i.1].map ii)) (enc i):=h;generalize enc i=x at h;generalize (l[i.1].map ii)=xs at h;cases h;rfl
 obtain⟨cf,hcf⟩:∃cf:Fin l.length->Fin l.length->Int,cf=fun i j=>vU l[i.1] l[j.1]:=⟨_,rfl⟩
 have hlt:∀i j,ltOf cf i j=aV l[i.1] l[j.1]:=fun i j=>by rw[hcf];exact cmpL_lt _ _
 have hO:SWO (ltOf cf):={
  irrefl:=fun x=>by rw[hlt];exact cA _
  trans:=fun x y z h k=>by rw[hlt]at *;exact dv _ _ _ h k
  ntrans:=fun x y z h k=>by rw[hlt]at *;exact rZ h k }
 have hinj:∀x y:Fin l.length,l[x.1]=l[y.1]->x=y:=fun x y h=>by
  have hp:=List.pairwise_iff_getElem.1 hnd;apply Fin.ext;rcases GC x.1 y.1 with h1|h1|h1
  ·exact absurd h (hp x.1 y.1 x.2 y.2 h1)
  ·exact h1
  ·exact absurd h.symm (hp y.1 x.1 y.2 x.2 h1)
 have hT:∀x y,ltOf cf x y=false->ltOf cf y x=false->x=y:=fun x y h k=>by
  rw[hlt]at h k;refine hinj x y (Classical.byContradiction fun hh=>?_)
  have:=eG _ _ h hh
  rw[k]at this;cases this
 have hblk:b<w.heap.size:=ba hheap;obtain⟨d,hd⟩:∃d:Array (Fin l.length),d=(List.finRange l.length).toArray:=⟨_,rfl⟩;have hds:d.size=l.length:=by rw[hd];simp
 have hSn:∀o,G.S b o=none:=fun o=>hS b rfl o (.inl rfl)
 have hw:∀(mm:Nat) (dk:Array (Fin l.length)) (os:Array Obj),w.grownBy (sortWorld enc w b 0 mm dk os) (some b):=by
  intro mm dk os;refine⟨rfl,rfl,rfl,?_,fun i hi hne=>?_⟩
  ·unfold sortWorld
   rw[size_grow];show w.heap.size<=(putRow enc (Sort.ahead w mm) b 0 _).heap.size+_;rw[Go.Proofs.size_putRow];exact Nat.le_add_right _ _
  ·unfold sortWorld
   have hi':i<(putRow enc (Sort.ahead w mm) b 0 dk).heap.size:=by
    rw[Go.Proofs.size_putRow];exact hi
   rw[heap_grow_old _ _ hi']
   show((w.heap).modify b _)[i]?=_
   rw[Fx,D5 (fun e=>hne (by rw[e]))]
 have hRel:∀(mm:Nat) (dk:Array (Fin l.length)) (os:Array Obj),dk.size=l.length->Rel (G.setSlot bi (.row (.slice (some ⟨b,0,none⟩) l.length cap) l.length 1)) (sg.set bi (.row false e 1 (dk.toList.map sx) false)) (sortWorld enc w b 0 mm dk os):=by
  intro mm dk os hdk;refine hR.change hs (Slot.le_refl _) (hw mm dk os) (fun g h=>.inl h) (fun g h=>by cases h;exact hbase) (fun g h o v hv=>by cases h;rw[hSn]at hv;cases hv) (fun g h es c hm=>?_) (fun g h hd=>?_) ?_
  ·cases h
   have:=hR.stM _ _ _ hm
   rw[hheap]at this;cases this
  ·cases h
   have:=(hR.dfr _ hd).2
   rw[hheap]at this;cases this
  ·have hheap2:(sortWorld enc w b 0 mm dk os).heap[b]?=some (.cells (putCells enc 0 dk cur) e (0,0)):=by
    unfold sortWorld;have hi':b<(putRow enc (Sort.ahead w mm) b 0 dk).heap.size:=by
     rw[Go.Proofs.size_putRow];exact hblk
    rw[heap_grow_old _ _ hi']
    show((w.heap).modify b _)[b]?=_
    rw[Fx,DZ rfl,hheap];rfl
   have htk2:(putCells enc 0 dk cur).toList.take (l.length*1)=dk.toList.map enc:=by
    rw[Nat.mul_one];have hcs2:l.length<=cur.size:=by rw[hcs];omega
    apply E6;intro i;rw[El];by_cases hi:i<l.length
    ·rw[DZ hi]
     have hif:i<dk.size:=by omega
     have hic:i<cur.size:=by omega
     simp[putCells,hi,hic,hif]
    ·rw[D5 hi,List.getElem?_eq_none (by simp;omega)]
   have hfx:flat (dk.toList.map sx)=dk.toList.map sx:=by
    have:dk.toList.map sx=(dk.toList.map fun i:Fin l.length=>l[i.1]).map slx:=by rw[Fb,hsx];rfl
    rw[this,pm]
   refine⟨rfl,by simp[hdk],hz,?_,?_,⟨dk.toList.map enc,⟨by simp[hdk],.inr ⟨b,cap,_,rfl,hbase,hheap2,hcap,hmax,by simp[putCells,hcs],htk2⟩⟩,?_⟩,fun g h o _=>by cases h;exact hSn o⟩
   ·intro x hx
    obtain⟨p,_,rfl⟩:=Ex.1 hx;rw[hsx];rfl
   ·intro c hc
    rw[hfx]at hc;obtain⟨p,_,rfl⟩:=Ex.1 hc;rw[hsx];rfl
   ·refine⟨by rw[hfx];simp,fun j c u hc hu=>?_⟩
    rw[hfx,Eh,EC]at hc;obtain⟨i,hi,rfl⟩:=hc;have hu:(dk.toList.map enc)[j]?=some u:=by simpa using hu
    rw[Eh,hi]at hu;cases hu;exact(hrep i).mono (G.setSlot_le bi _ _ hs (Slot.le_refl _))
 have hH:Holds enc w b 0 d:=by
  intro j hj;rw[hds]at hj;rw[EG];have hjd:d[j]! = ⟨j,hj⟩:=by rw[getElem!_pos _ j (by omega)];simp[hd]
  constructor
  ·have:=hown.cellAt j (by omega)
   rw[this,hjd];exact hug ⟨j,hj⟩
  ·exact hown.frozenAt j
 have hlays:CmpLays1 P g #[] enc cf b 0 d.size w:=by
  intro mm os dk hdk x y;have hrel:=hRel mm dk os (by omega)
  have hr:∀i,Rep (fQ (sortWorld enc w b 0 mm dk os)) (sx i) (enc i):=fun i =>
   Rep.snap hrel ((hrep i).mono (G.setSlot_le bi _ _ hs (Slot.le_refl _))) (av _ (by rw[hsx];exact nX _))
  have hL2:RepL (fQ (sortWorld enc w b 0 mm dk os)) [sx x,sx y] (#[enc x,enc y]++#[]):=by
   refine⟨rfl,fun j c u hc hu=>?_⟩
   match j with
   |0=>cases hc;cases hu;exact hr x
   |1=>cases hc;cases hu;exact hr y
   |j+2=>cases hc
  have hcall:ab P g [sx x,sx y] [] (.ret (.int .i64 (cf x y))) []:=by
   rw[hsx,hcf];exact hc _ (E5 x.2) _ (E5 y.2)
  have h:=Calls.drawn (callsIn_wide.1 (hcall.2 0 _ _ _ (jK hrel) hL2));refine h.mono ?_;rintro e w' ⟨⟨G',hR',hl,hd',hv⟩,hdr⟩;cases e with
  |returned u =>
   cases hv;have hw0:G'.w0=sortWorld enc w b 0 mm dk os:=hl.w0;have hbe:=hR'.below;rw[hw0]at hbe;rcases hdr with e|hdr
   ·cases e
   ·exact⟨rfl,pW hbe hdr⟩
  |panicked ch=>exact hv.elim
  |outgrown=>exact hv.elim
 have key:=Any.slices_SortFunc_total L enc hone cf hO g #[] b 0 cap d w eg hlays hH hblk (by rw[hds];exact hlen) hT
 rw[hds]at key;refine CallsIn.mono (callsIn_wide.2 key) ?_;rintro e' w' ⟨rfl,mm,os,rfl⟩;have hdl:d.toList=List.finRange l.length:=by rw[hd]
 rw[hdl];generalize hl2:((List.finRange l.length).mergeSort fun x y=>!(ltOf cf) y x)=l2
 have hperm:l2.Perm (List.finRange l.length):=by rw[←hl2];exact List.mergeSort_perm _ _
 have hfin:(List.finRange l.length).map (fun i:Fin l.length=>l[i.1])=l:=by
  apply List.ext_getElem <;> simp
 have hlist:l2.map (fun i:Fin l.length=>l[i.1])=cg l:=by
  refine tR (rise_of ?_ ?_) fun z=>?_
  ·rw[List.pairwise_map]
   have:=List.pairwise_mergeSort (le:=fun x y=>!(ltOf cf) y x) (fun a b c h1 h2=>by
    simp only[GB,hlt]at *;exact rZ h2 h1) (fun a b=>by
    simp only[Fk,GB,hlt];cases h1:aV l[b.1] l[a.1]with
    |false=>exact .inl rfl
    |true =>
     right
     cases h2:aV l[a.1] l[b.1]with
     |false=>rfl
     |true=>have:=dv _ _ _ h1 h2;rw[cA]at this;cases this) (List.finRange l.length)
   rw[hl2]at this;exact this.imp fun {a b} h=>by simpa[hlt]using h
  ·have:=(hperm.map fun i:Fin l.length=>l[i.1])
   rw[hfin]at this;exact this.nodup_iff.2 hnd
  ·have:=(hperm.map fun i:Fin l.length=>l[i.1])
   rw[hfin]at this;exact this.mem_iff
 have hsz:l2.toArray.size=l.length:=by
  have:=hperm.length_eq
  simpa using this
 have hfinal:=hRel mm l2.toArray os hsz;have e1:l2.toArray.toList.map sx=(cg l).map slx:=by
  rw[←hlist,Fb,hsx];rfl
 rw[e1]at hfinal;exact⟨_,hfinal,(G.setSlot_le bi _ _ hs (Slot.le_refl _)).leM _,rfl,.tuple rfl fun j c u hc=>by cases hc⟩
end Go.Pv
namespace Go.Proofs
open Go.Shelf
def sort151_ren:Go.Shelf.Ren:=⟨fun|6=>90|14=>116|15=>117|20=>136|21=>137|22=>138|23=>139|24=>140|25=>141|26=>142|27=>143|28=>144|29=>145|46=>151|47=>152|48=>153|49=>154|50=>155|57=>158|n=>n,fun|22=>23|24=>28|25=>51|3=>3|39=>183|0=>0|53=>209|55=>211|4=>4|46=>202|45=>201|50=>206|5=>5|9=>9|66=>214|70=>218|76=>221|77=>222|n=>n,fun|n=>n⟩
theorem sort151:Go.Proofs.SlLaysF.n6 prog sort151_ren:={
 mixed:=by kernel_rfl
 f6:=⟨f90.name,by decide,func90.trans (congrArg some (by kernel_rfl))⟩
 f14:=⟨f116.name,by decide,func116.trans (congrArg some (by kernel_rfl))⟩
 f15:=func117.trans (congrArg some (by kernel_rfl))
 f20:=⟨f136.name,by decide,func136.trans (congrArg some (by kernel_rfl))⟩
 f21:=⟨f137.name,by decide,func137.trans (congrArg some (by kernel_rfl))⟩
 f22:=⟨f138.name,by decide,func138.trans (congrArg some (by kernel_rfl))⟩
 f23:=⟨f139.name,by decide,func139.trans (congrArg some (by kernel_rfl))⟩
 f24:=⟨f140.name,by decide,func140.trans (congrArg some (by kernel_rfl))⟩
 f25:=⟨f141.name,by decide,func141.trans (congrArg some (by kernel_rfl))⟩
 f26:=⟨f142.name,by decide,func142.trans (congrArg some (by kernel_rfl))⟩
 f27:=⟨f143.name,by decide,func143.trans (congrArg some (by kernel_rfl))⟩
 f28:=func144.trans (congrArg some (by kernel_rfl))
 f29:=func145.trans (congrArg some (by kernel_rfl))
 f46:=⟨f151.name,by decide,func151.trans (congrArg some (by kernel_rfl))⟩
 f47:=func152.trans (congrArg some (by kernel_rfl))
 f48:=func153.trans (congrArg some (by kernel_rfl))
 f49:=⟨f154.name,by decide,func154.trans (congrArg some (by kernel_rfl))⟩
 f50:=⟨f155.name,by decide,func155.trans (congrArg some (by kernel_rfl))⟩
 f57:=⟨f158.name,by decide,func158.trans (congrArg some (by kernel_rfl))⟩
 t0:=underlying0
 a0:=isAgg0
 z0:=sizeOf0
 v0:=zeroValue0
 t3:=underlying3
 a3:=isAgg3
 z3:=sizeOf3
 v3:=zeroValue3
 t4:=underlying4
 a4:=isAgg4
 z4:=sizeOf4
 v4:=zeroValue4
 t5:=underlying5
 a5:=isAgg5
 z5:=sizeOf5
 v5:=zeroValue5
 t9:=underlying9
 a9:=isAgg9
 z9:=sizeOf9
 v9:=zeroValue9
 t22:=underlying23
 a22:=isAgg23
 z22:=sizeOf23
 v22:=zeroValue23
 a24:=isAgg28
 z24:=sizeOf28
 t25:=underlying51
 a25:=isAgg51
 z25:=sizeOf51
 v25:=zeroValue51
 t39:=underlying183
 a39:=isAgg183
 z39:=sizeOf183
 v39:=zeroValue183
 t45:=underlying201
 a45:=isAgg201
 z45:=sizeOf201
 v45:=zeroValue201
 t46:=underlying202
 a46:=isAgg202
 z46:=sizeOf202
 v46:=zeroValue202
 t50:=underlying206
 a50:=isAgg206
 z50:=sizeOf206
 v50:=zeroValue206
 t53:=underlying209
 a53:=isAgg209
 z53:=sizeOf209
 v53:=zeroValue209
 t55:=underlying211
 a55:=isAgg211
 z55:=sizeOf211
 v55:=zeroValue211
 t66:=underlying214
 a66:=isAgg214
 z66:=sizeOf214
 v66:=zeroValue214
 t70:=underlying218
 a70:=isAgg218
 z70:=sizeOf218
 v70:=zeroValue218
 t76:=underlying221
 a76:=isAgg221
 z76:=sizeOf221
 v76:=zeroValue221
 t77:=underlying222
 a77:=isAgg222
 z77:=sizeOf222
 v77:=zeroValue222
}
end Go.Proofs
namespace Go.Pv
open Go Go.RowKit Go.Proofs
set_option maxRecDepth 200000
set_option maxHeartbeats 8000000
theorem yB(x:Int):ab prog 146 [ii x] [] (.ret (.bool false)) []:=by
 refine ab.of0 hTT func146 rfl rfl ?_;have h:(x != x)=false:=by simp
 repeat with_reducible first|refine nz aa ?_|apply ny;simp only[f146,h,go_sem];rfl
 exact⟨rfl,rfl,_,rfl,rfl⟩
def c218:Tb_
 |[.int .i64 _],sg=>some (.ret (.bool false),sg)
 |_,_=>none
theorem c218_ok:dU prog 146 c218:=dU.of0 (ent func146 rfl) fun args sg r sg' h=>by
 unfold c218 at h;split at h <;> cases h
 exact⟨_,rfl,rfl,rfl,yB _⟩
def cmp1(x y:Int):Int:=if x<y then -1 else if y<x then 1 else 0
def cfU1:CallF:=aE cf0 146 c218
theorem km:CallFOk prog cfU1:=ah aa c218_ok
theorem cmp_163(x y:Int):ab prog 118 [ii x,ii y] [] (.ret (ii (cmp1 x y))) []:=by
 refine ab.of0 hTT func118 rfl rfl ?_;unfold cmp1;by_cases h1:x<y
 ·repeat with_reducible first|refine nz km ?_|apply ny;simp only[f118,cfU1,c218,h1,go_sem];rfl
  refine⟨rfl,rfl,_,rfl,?_⟩;rw[DZ h1];rfl
 ·by_cases h2:y<x
  ·repeat with_reducible first|refine nz km ?_|apply ny;simp only[f118,cfU1,c218,h1,h2,EW,go_sem];rfl
   refine⟨rfl,rfl,_,rfl,?_⟩;rw[D5 h1,DZ h2];rfl
  ·repeat with_reducible first|refine nz km ?_|apply ny;simp only[f118,cfU1,c218,h1,h2,EW,go_sem];rfl
   refine⟨rfl,rfl,_,rfl,?_⟩;rw[D5 h1,D5 h2];rfl
def c163:Tb_
 |[.int .i64 x,.int .i64 y],sg=>some (.ret (ii (cmp1 x y)),sg)
 |_,_=>none
theorem c163_ok:dU prog 118 c163:=dU.of0 (ent func118 rfl) fun args sg r sg' h=>by
 unfold c163 at h;split at h <;> cases h
 exact⟨_,rfl,rfl,rfl,cmp_163 _ _⟩
theorem cmpL_nn:vU [] []=0:=rfl
theorem cmpL_nc(y:Int)(b:List Int):vU [] (y::b) = -1:=rfl
theorem cmpL_cn(x:Int)(a:List Int):vU (x::a) []=1:=rfl
theorem cmpL_cc(x y:Int)(a b:List Int):vU (x::a) (y::b)=if cmp1 x y≠0 then cmp1 x y else vU a b:=by
 unfold cmp1 vU;rw[aV];by_cases h1:x<y
 ·have h3:¬x=y:=by omega
  simp[h1,h3]
 ·by_cases h2:y<x
  ·have h3:¬x=y:=by omega
   simp[h1,h2,h3]
  ·have h3:x=y:=by omega
   simp[h3]
def cfU2:CallF:=aE cf0 118 c163
theorem L8:CallFOk prog cfU2:=ah aa c163_ok
theorem s7(za zb:Z)(a b:List Int)(ha:za=.n->a=[])(hb:zb=.n->b=[])(hs:a.length<=maxLen):ab prog 91 [.sl za (a.map ii),.sl zb (b.map ii)] [] (.ret (ii (vU a b))) []:=by
 refine ab.of0 hTT func91 rfl rfl ?_;unfold maxLen at hs;repeat with_reducible first|refine nz aa ?_|apply ny;simp only[f91,go_sem];rfl
 refine am.keep [11,10,9,1,0] (by simp only[go_sem];rfl) ?_
 refine am.loop (fun i s'=>(vU a b=vU (a.drop i) (b.drop i)∧i<=b.length)∧s'=⟨[(11,ii i),(10,ii a.length),(9,.sl za (a.map ii)),(0,.sl za (a.map ii)),(1,.sl zb (b.map ii))],36,[]⟩) a.length ⟨⟨rfl,Ee _⟩,by simp only[DX,go_sem]⟩ ?_
 rintro i _ hi ⟨⟨hm,hib⟩,rfl⟩;by_cases hlt:i<a.length
 ·obtain⟨x,hx⟩:=gex hlt
  have hx':(a.map ii)[i]?=some (ii x):=aw hx;have hlt':(i:Int)<a.length:=by omega
  have hza':za≠.n:=fun e=>by rw[ha e]at hlt;simp at hlt
  have e4:=wIs i (by omega)
  by_cases hlb:i<b.length
  ·obtain⟨y,hy⟩:=gex hlb
   have hy':(b.map ii)[i]?=some (ii y):=aw hy;have hlb':¬((b.length:Int)<=(i:Int)):=by omega
   have hzb':zb≠.n:=fun e=>by rw[hb e]at hlb;simp at hlb
   rw[aP hx,aP hy,cmpL_cc]at hm;by_cases hc:cmp1 x y=0
   ·have h1:(cmp1 x y != 0)=false:=by simp[hc]
    rw[D5 (fun h=>h hc)]at hm
    repeat with_reducible first|refine nz L8 ?_|apply ny;simp only[f91,cfU2,c163,hlt',hx',hy',hza',hzb',hlb',h1,e4,EO,go_sem];rfl
    refine ak.k [11,10,9,1,0] hlt (by simp only[go_sem];rfl) ⟨⟨hm,by omega⟩,by simp only[go_sem]⟩
   ·have h1:(cmp1 x y != 0)=true:=by simp[hc]
    rw[DZ hc]at hm;repeat with_reducible first|refine nz L8 ?_|apply ny;simp only[f91,cfU2,c163,hlt',hx',hy',hza',hzb',hlb',h1,e4,EO,go_sem];rfl
    exact⟨rfl,rfl,_,rfl,by rw[hm];rfl⟩
  ·have hlb':((b.length:Int)<=(i:Int)):=by omega
   rw[aP hx,show b.drop i=[]from Ef (by omega),cmpL_cn]at hm
   repeat with_reducible first|refine nz L8 ?_|apply ny;simp only[f91,cfU2,c163,hlt',hx',hza',hlb',e4,EO,go_sem];rfl
   exact⟨rfl,rfl,_,rfl,by rw[hm];rfl⟩
 ·have hlt':¬(i:Int)<a.length:=by omega
  obtain rfl:i=a.length:=by omega
  rw[List.drop_length]at hm;by_cases hlb:a.length<b.length
  ·have hlb':(a.length:Int)<b.length:=by omega
   obtain⟨y,hy⟩:∃y,b[a.length]?=some y:=⟨_,DT hlb⟩;rw[aP hy,cmpL_nc]at hm;repeat with_reducible first|refine nz L8 ?_|apply ny;simp only[f91,hlt',hlb',go_sem];rfl
   exact⟨rfl,rfl,_,rfl,by rw[hm];rfl⟩
  ·have hlb':¬(a.length:Int)<b.length:=by omega
   rw[Ef (by omega),cmpL_nn]at hm
   repeat with_reducible first|refine nz L8 ?_|apply ny;simp only[f91,hlt',hlb',go_sem];rfl
   exact⟨rfl,rfl,_,rfl,by rw[hm];rfl⟩
theorem sort_151{l:List (List Int)}(hne:l≠[])(hnd:l.Nodup)(hlen:l.length<=100000)(hx:∀x∈l,x.length<=maxLen){sg:List Box}{bi:Nat}{e:TypeId}(hb:sg[bi]?=some (.row false e 1 (l.map slx) false)):
 ab prog 90 [.ms bi l.length,.fn (.func 91) [] []] sg (.ret (.tuple [])) (sg.set bi (.row false e 1 ((cg l).map slx) false)):=by
 have:=ab.sortLists sort151 (g:=91) (fun args w=>ent func91 rfl args w) hne hnd (by omega) (fun a ha b _=>s7 .a .a a b (by simp) (by simp) (hx a ha)) hb rfl
 exact this
def idxL(v:Int):List Int->Nat->Int
 |[],_=>-1
 |x::l,i=>if v=x then(i:Int)else idxL v l (i+1)
theorem yQ(v:Int):∀(l:List Int) (i:Nat),decide (0<=idxL v l i)=decide (v∈l)
 |[],_=>by simp[idxL]
 |x::l,i=>by
  rw[idxL];by_cases h:v=x
  ·rw[DZ h];simp[h]
  ·rw[D5 h,yQ v l (i+1)];simp[h]
theorem yY(z:Z)(l:List Int)(v:Int)(hz:z=.n->l=[])(hs:l.length<=maxLen):ab prog 156 [.sl z (l.map ii),ii v] [] (.ret (ii (idxL v l 0))) []:=by
 refine ab.of0 hTT func156 rfl rfl ?_;unfold maxLen at hs;repeat with_reducible first|refine nz aa ?_|apply ny;simp only[f156,go_sem];rfl
 refine am.keep [8,7,1,0] (by simp only[go_sem];rfl) ?_
 refine am.loop (fun i s'=>idxL v l 0=idxL v (l.drop i) i∧s'=⟨[(8,ii i),(7,ii l.length),(0,.sl z (l.map ii)),(1,ii v)],19,[]⟩) l.length ⟨rfl,by simp only[DX,go_sem]⟩ ?_
 rintro i _ hi ⟨hm,rfl⟩;by_cases hlt:i<l.length
 ·obtain⟨x,hx⟩:=gex hlt
  have hx':(l.map ii)[i]?=some (ii x):=aw hx;have hlt':(i:Int)<l.length:=by omega
  have hz':z≠.n:=fun e=>by rw[hz e]at hlt;simp at hlt
  have e4:=wIs i (by omega)
  rw[aP hx,idxL]at hm;by_cases hv:v=x
  ·have h1:(v==x)=true:=by simp[hv]
   rw[DZ hv]at hm;repeat with_reducible first|refine nz aa ?_|apply ny;simp only[f156,hx',hlt',hz',e4,h1,go_sem];rfl
   exact⟨rfl,rfl,_,rfl,by rw[hm];rfl⟩
  ·have h1:(v==x)=false:=by simp[hv]
   rw[D5 hv]at hm;repeat with_reducible first|refine nz aa ?_|apply ny;simp only[f156,hx',hlt',hz',e4,h1,go_sem];rfl
   refine ak.k [8,7,1,0] hlt (by simp only[go_sem];rfl) ⟨hm,by simp only[go_sem]⟩
 ·have hlt':¬(i:Int)<l.length:=by omega
  rw[Ef (by omega)]at hm
  repeat with_reducible first|refine nz aa ?_|apply ny;simp only[f156,hlt',go_sem];rfl
  exact⟨rfl,rfl,_,rfl,by rw[hm];rfl⟩
theorem qo(z:Z)(l:List Int)(v:Int)(hz:z=.n->l=[])(hs:l.length<=maxLen):ab prog 147 [.sl z (l.map ii),ii v] [] (.ret (.bool (decide (v∈l)))) []:=by
 refine ab.of0 hTT func147 rfl rfl ?_;have h:=yY z l v hz hs;have hl:bD 0 [PV.sl z (l.map ii),ii v]=true:=by rw[af,bt];rfl
 have hc:=cV l;rw[←yQ v l 0];generalize idxL v l 0=k at h ⊢;repeat with_reducible first|refine nz (aj aa (ent func156 rfl) h hl) ?_|apply ny;simp only[f147,eA,hc,EO,go_sem];rfl
 exact⟨rfl,rfl,_,rfl,rfl⟩
def c111:Tb_
 |[v,.int .i64 x],sg=>match aN v with
  |some l=>if l.length<=maxLen then some (.ret (.bool (decide (x∈l))),sg)else none
  |none=>none
 |_,_=>none
theorem pK:dU prog 147 c111:=dU.of0 (ent func147 rfl) fun args sg r sg' h=>by
 unfold c111 at h;split at h <;> try (cases h;done)
 split at h <;> try (cases h;done)
 rename_i h1;split at h <;> cases h
 rename_i hc;obtain⟨z,rfl,hz⟩:=aJ h1;exact⟨_,rfl,rfl,by rw[af,bt];rfl,qo _ _ _ hz hc⟩
def prim0:CallF->FuncId->List PV->List Box->Option (Option (PRes×List Box)):=fun _ _ _ _=>none
theorem dw:nt prog prim0:=fun cf _ f args sg r sg' h=>by cases h
def lg(p:List Int):PV:=.agg [ii p.length,ii (p.getD 0 0),ii (p.getD 1 0),ii (p.getD 2 0),ii (p.getD 3 0),ii (p.getD 4 0),ii (p.getD 5 0),ii (p.getD 6 0),ii (p.getD 7 0),ii (p.getD 8 0),ii (p.getD 9 0)]
theorem sQ(p:List Int):(lg p).closed=true:=rfl
theorem AG:∀p:List Int,p.length<=10->ab prog 89 [.sl .a (p.map ii)] [] (.ret (lg p)) []
 |[],_=>(dC hTT cP mixed named dw (k:=60) (by kernel_rfl)).2.1
 |[a],_=>(dC hTT cP mixed named dw (k:=60) (by kernel_rfl)).2.1
 |[a,b],_=>(dC hTT cP mixed named dw (k:=60) (by kernel_rfl)).2.1
 |[a,b,c],_=>(dC hTT cP mixed named dw (k:=60) (by kernel_rfl)).2.1
 |[a,b,c,d],_=>(dC hTT cP mixed named dw (k:=60) (by kernel_rfl)).2.1
 |[a,b,c,d,e],_=>(dC hTT cP mixed named dw (k:=60) (by kernel_rfl)).2.1
 |[a,b,c,d,e,f],_=>(dC hTT cP mixed named dw (k:=60) (by kernel_rfl)).2.1
 |[a,b,c,d,e,f,g],_=>(dC hTT cP mixed named dw (k:=60) (by kernel_rfl)).2.1
 |[a,b,c,d,e,f,g,h],_=>(dC hTT cP mixed named dw (k:=60) (by kernel_rfl)).2.1
 |[a,b,c,d,e,f,g,h,i],_=>(dC hTT cP mixed named dw (k:=60) (by kernel_rfl)).2.1
 |[a,b,c,d,e,f,g,h,i,j],_=>(dC hTT cP mixed named dw (k:=60) (by kernel_rfl)).2.1
 |_::_::_::_::_::_::_::_::_::_::_::_,h=>by simp at h
def c150:Tb_
 |[.sl .a es],sg=>match dM ld es with
  |some p=>if p.length<=10 then some (.ret (lg p),sg)else none
  |none=>none
 |_,_=>none
theorem c150_ok:dU prog 89 c150:=dU.of0 (ent func89 rfl) fun args sg r sg' h=>by
 unfold c150 at h;split at h <;> try (cases h;done)
 split at h <;> try (cases h;done)
 rename_i h1;split at h <;> cases h
 rename_i hc;obtain rfl:=bv pw h1;exact⟨_,rfl,rfl,by rw[af,bt];rfl,AG _ hc⟩
theorem keyB_ok(p:List Int):eP (TT 154) (lg p)=true:=by kernel_rfl
theorem keyB_inj{a b:List Int}(ha:a.length<=10)(hb:b.length<=10)(hl:a.length=b.length)(h:∀i,i<10->a.getD i 0=b.getD i 0):a=b:=by
 apply List.ext_getElem hl;intro i h1 h2;have:=h i (by omega)
 rw[Ep,Ep,DT h1,DT h2]at this;exact this
theorem eqKey(a b:List Int)(ha:a.length<=10)(hb:b.length<=10):eqT (TT 154) (lg a) (lg b)=some (decide (a=b)):=by
 have e:eqT (TT 154) (lg a) (lg b)=some (((a.length:Int)==(b.length:Int))&&((a.getD 0 0==b.getD 0 0)&&((a.getD 1 0==b.getD 1 0)&&((a.getD 2 0==b.getD 2 0)&&((a.getD 3 0==b.getD 3 0)&&((a.getD 4 0==b.getD 4 0)&&((a.getD 5 0==b.getD 5 0)&&((a.getD 6 0==b.getD 6 0)&&((a.getD 7 0==b.getD 7 0)&&((a.getD 8 0==b.getD 8 0)&&((a.getD 9 0==b.getD 9 0)&&true))))))))))):=by kernel_rfl
 rw[e]
 congr 1
 rw[FD];simp only[D3,FR,Eo,IV];constructor
 ·rintro⟨h,h0,h1,h2,h3,h4,h5,h6,h7,h8,h9⟩
  refine keyB_inj ha hb (by omega) fun i hi=>?_
  match i,hi with
  |0,_=>exact h0
  |1,_=>exact h1
  |2,_=>exact h2
  |3,_=>exact h3
  |4,_=>exact h4
  |5,_=>exact h5
  |6,_=>exact h6
  |7,_=>exact h7
  |8,_=>exact h8
  |9,_=>exact h9
  |i+10,hi=>omega
 ·rintro rfl
  simp
theorem l8{k:List Int}(hk:k.length<=10):∀(B:List (List Int)) (j:Nat),(∀b∈B,b.length<=10)->k∉B->e9 (TT 154) (lg k) (B.map lg) j=some none
 |[],_,_,_=>rfl
 |b::B,j,hB,h=>by
  have h1:¬k=b:=fun e=>h (e▸DV ..)
  have h2:k∉B:=fun e=>h (DW _ e)
  show(if(lg b).ag=true then _ else _)=_
  rw[DZ (show(lg b).ag=true from rfl),eqKey k b hk (hB b DV),Ei h1,l8 hk B (j+1) (fun x hx=>hB x (DW _ hx)) h2]
theorem tS{k:List Int}(hk:k.length<=10):∀(B:List (List Int)) (j:Nat),(∀b∈B,b.length<=10)->B.Nodup->k∈B->∃i,e9 (TT 154) (lg k) (B.map lg) j=some (some (j+i))∧i<B.length
 |[],_,_,_,h=>by cases h
 |b::B,j,hB,hn,h=>by
  obtain⟨n1,n2⟩:=Gc.1 hn;show ∃i,(if(lg b).ag=true then _ else _)=_∧_;rw[DZ (show(lg b).ag=true from rfl),eqKey k b hk (hB b DV)]
  by_cases hb:k=b
  ·subst hb
   rw[Ej rfl,l8 hk B (j+1) (fun x hx=>hB x (DW _ hx)) n1]
   exact⟨0,rfl,by simp⟩
  ·have hkB:k∈B:=by
    rcases D6.1 h with h|h
    ·exact absurd h hb
    ·exact h
   obtain⟨i,e1,e2⟩:=tS hk B (j+1) (fun x hx=>hB x (DW _ hx)) n2 hkB
   rw[Ei hb,e1];exact⟨i+1,by simp;omega,by simp;omega⟩
end Go.Pv
