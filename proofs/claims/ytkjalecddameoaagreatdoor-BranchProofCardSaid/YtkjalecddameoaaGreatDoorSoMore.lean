import Derived.Test.YtkjalecddameoaaGreatDoorQjPlays
import Derived.Test.YtkjalecddameoaaGreatDoorQmCho
import Derived.Test.YtkjalecddameoaaGreatDoorQmRefB
import Derived.Test.YtkjalecddameoaaGreatDoorQgPlays
import Derived.Test.YtkjalecddameoaaGreatDoorQiRef
set_option linter.all false
open List (mem_cons_self mem_cons_of_mem getElem?_eq_getElem mem_of_getElem? length_map)
namespace Go.Pv
open Go Go.RowKit Go.Proofs
set_option maxRecDepth 200000
set_option maxHeartbeats 8000000
theorem scn_get{sc:List Sn}:∀{p:List Int} {i:Nat} {x:Int} {y:Sn},(∀x∈p,0<=x∧x<sc.length)->p[i]?=some x->sc[x.toNat]?=some y->(scn sc p)[i]?=some y
 |[],i,x,y,_,h,_=>by simp at h
 |a::p,0,x,y,_,h,k=>by
  simp only[List.getElem?_cons_zero,Option.some.injEq]at h;subst h;unfold scn;rw[List.filterMap_cons,k];rfl
 |a::p,i+1,x,y,hp,h,k=>by
  have h1:=hp a mem_cons_self;have h2:sc[a.toNat]?=some sc[a.toNat]:=getElem?_eq_getElem (by omega)
  have ih:=scn_get (p:=p) (i:=i) (fun x hx=>hp x (mem_cons_of_mem _ hx)) (by simpa using h) k
  unfold scn at ih ⊢;rw[List.filterMap_cons,h2];simpa using ih
theorem verd_range(n:Nt)(sc:List Sn)(p:List Int):1<=cX n sc p∧cX n sc p<=4:=by
 unfold cX;cases dT sc 0 p <;> cases un (scn sc p) <;> cases iL n (scn sc p) <;> decide
theorem verd_form{n:Nt}{sc:List Sn}{p:List Int}:cX n sc p=1↔dT sc 0 p=false:=by
 unfold cX;cases dT sc 0 p <;> cases un (scn sc p) <;> cases iL n (scn sc p) <;> decide
theorem verd_ord{n:Nt}{sc:List Sn}{p:List Int}:cX n sc p=2↔dT sc 0 p=true∧un (scn sc p)=false:=by
 unfold cX;cases dT sc 0 p <;> cases un (scn sc p) <;> cases iL n (scn sc p) <;> decide
theorem verd_night{n:Nt}{sc:List Sn}{p:List Int}:cX n sc p=3↔dT sc 0 p=true∧un (scn sc p)=true∧iL n (scn sc p)=false:=by
 unfold cX;cases dT sc 0 p <;> cases un (scn sc p) <;> cases iL n (scn sc p) <;> decide
theorem can_fix{n:Nt}(hn:WinOk n){l:List Sn}(hl:FitL l){i:Nat}{x:Sn}(h:l[i]?=some x){c:List Nat}(hc:c.Nodup)(hi:i∈c){k:Int}(hk:x.least<=k∧k<=x.most)(hcan:lE n (kQ l i k) c=true):lE n l c=true:=by
 have hx:=hl x (mem_of_getElem? h);obtain⟨a,b,d,h0,h1,h2,h3,h4,h5⟩:=(Cz hn (Dd hl i (by omega)) c).1 hcan
 refine(Cz hn hl c).2 ⟨a,b,d,h0,h1,h2,?_⟩;simp only[lo_fix h k hc hi,hi_fix h k hc hi]at h3 h4 h5;refine⟨?_,?_,?_⟩
 ·split at h3 <;> omega
 ·split at h4 <;> omega
 ·split at h5 <;> omega
theorem fits_can{n:Nt}(hn:WinOk n){c:List Nat}(hc:c.Nodup):∀{r:List Nat} {ks:List Int} {l:List Sn},FitL l->r.Nodup->(∀i∈r,i∈c∧i<l.length)->Db l r ks=true->lE n (CM l r ks) c=true->lE n l c=true
 |[],ks,l,_,_,_,_,h=>by cases ks <;> exact h
 |i::r,[],l,_,_,_,_,h=>h
 |i::r,k::ks,l,hl,hr,hm,hin,h=>by
  have hp:=List.nodup_cons.1 hr;have hi:=hm i mem_cons_self;obtain⟨x,hx⟩:∃x,l[i]?=some x:=⟨_,getElem?_eq_getElem hi.2⟩;have hin:(inB k (fV (·.least) l i) (fV (·.most) l i)&&Db l r ks)=true:=hin
  rw[Bool.and_eq_true,m2 (f:=(·.least)) hx,m2 (f:=(·.most)) hx]at hin
  have hb:=bm.1 hin.1;have hxf:=hl x (mem_of_getElem? hx);have:=fits_can hn hc (r:=r) (ks:=ks) (l:=kQ l i k) (Dd hl i (by omega)) hp.2 (fun j hj=>by rw[Cs];exact hm j (mem_cons_of_mem _ hj)) (by rw[inLs_fix hx k hp.1];exact hin.2) h
  exact can_fix hn hl hx hc hi.1 hb this
theorem one_of{v c:PV}(h:v.cells=[c])(ha:v.ag=false):v=c:=by
 cases v <;> first|(cases ha;done)|(simp only[PV.cells,List.cons.injEq,and_true]at h;exact h)
theorem is_of{v:PV}(h:isTS.shp v.cells∧v.ag=false):∃(z:Z) (l:List Int),v=.sl z (l.map ii)∧zOk z (l.map ii)=true:=by
 obtain⟨z,l,hc,hz⟩:=shp_is h.1;exact⟨z,l,one_of hc h.2,hz⟩
theorem plZ_n{l:List (List Int)}(h:plZ l=.n):l=[]:=by
 unfold plZ at h;split at h
 ·rename_i hd
  exact List.length_eq_zero_iff.1 (of_decide_eq_true hd)
 ·cases h
theorem Has_129(z:Z)(l:List Int)(n:Int)(hz:z=.n->l=[])(hl:l.length<=100000):ab Tryz.prog 129 [.sl z (l.map ii),ii n] [] (.ret (.bool (decide (n∈l)))) []:=by
 refine ab.of0 hTT Tryz.func129 rfl rfl ?_;repeat with_reducible first|apply nx|apply wQ rfl|(first|apply wV|apply wW|apply wX|apply wy aa;kernel_rfl);simp only[Tryz.f129,go_sem];rfl|refine wz aa ?_|refine wa ⟨by kernel_rfl,?_⟩
 refine am.keep [5,4,0,1] (by simp only[go_sem];rfl) ?_
 refine am.loop (fun i s'=>decide (n∈l)=decide (n∈l.drop i)∧s'=⟨[(5,ii (i:Nat)),(4,.bool false),(0,.sl z (l.map ii)),(1,ii n)],18,[]⟩) l.length ⟨rfl,by first|(simp only[go_sem];done)|(simp only[go_sem];rfl)|rfl⟩ ?_
 rintro i _ hi ⟨hm,rfl⟩;by_cases hlt:i<l.length
 ·obtain⟨x,hx⟩:∃x,l[i]?=some x:=⟨_,List.getElem?_eq_getElem hlt⟩
  have hx':(l.map ii)[i]?=some (ii x):=aw hx;have hlt':(i:Int)<l.length:=by omega
  have hz':z≠.n:=fun e=>by rw[hz e]at hlt;simp at hlt
  have e4:IntKind.i64.wrap ((i:Int)+1)=((i+1:Nat):Int):=ai (by omega) (by omega)
  rw[mem_step hx]at hm;by_cases hxn:x=n
  ·have hb:(x==n)=true:=by simp[hxn]
   repeat with_reducible first|apply nx|apply wQ rfl|(first|apply wV|apply wW|apply wX|apply wy aa;kernel_rfl);simp only[Tryz.f129,hx',hlt',hz',e4,hb,length_map,go_sem];rfl|refine wz aa ?_|refine wa ⟨by kernel_rfl,?_⟩
   refine⟨rfl,rfl,_,rfl,?_⟩;rw[hm,decide_eq_true hxn];rfl
  ·have hb:(x==n)=false:=by simp[hxn]
   repeat with_reducible first|apply nx|apply wQ rfl|(first|apply wV|apply wW|apply wX|apply wy aa;kernel_rfl);simp only[Tryz.f129,hx',hlt',hz',e4,hb,length_map,go_sem];rfl|refine wz aa ?_|refine wa ⟨by kernel_rfl,?_⟩
   refine ak.t 0 [5,4,0,1] hlt (by simp only[aF,an,go_sem]) ⟨by rw[hm,decide_eq_false hxn];rfl,by first|(simp only[go_sem];done)|(simp only[go_sem];rfl)|rfl⟩
 ·have hlt':¬(i:Int)<l.length:=by omega
  repeat with_reducible first|apply nx|apply wQ rfl|(first|apply wV|apply wW|apply wX|apply wy aa;kernel_rfl);simp only[Tryz.f129,hlt',length_map,go_sem];rfl|refine wz aa ?_|refine wa ⟨by kernel_rfl,?_⟩
  refine⟨rfl,rfl,_,rfl,?_⟩;rw[hm,List.drop_eq_nil_of_le (by omega)];rfl
def c129:Tb_
 |[v,.int .i64 n],sg=>match gN v with
  |some c=>if c.length<=100000 then some (.ret (.bool (if 0<=n then decide (n.toNat∈c)else false)),sg)else none
  |none=>none
 |_,_=>none
theorem mem_intsN{c:List Nat}{n:Nat}:(n:Int)∈bH c↔n∈c:=by
 unfold bH;rw[List.mem_map];exact⟨fun ⟨x,hx,e⟩=>by rw[←Int.ofNat.inj e];exact hx,fun h=>⟨n,h,rfl⟩⟩
theorem c129_ok:al Tryz.prog 129 c129:=al.of0 (ent Tryz.func129 rfl) fun args sg r sg' h=>by
 unfold c129 at h;split at h <;> try (cases h;done)
 split at h <;> try (cases h;done)
 rename_i n _ c h1;split at h <;> cases h
 rename_i hc;obtain⟨z,rfl,hz⟩:=cW h1;have:=Has_129 z (bH c) n (fun e=>by rw[hz e];rfl) (by unfold bH;rw[length_map];exact hc)
 rw[←pG]at this;have e:decide (n∈bH c)=(if 0<=n then decide (n.toNat∈c)else false):=by
  split
  ·have h2:((n.toNat:Nat):Int)=n:=by omega
   rw[decide_eq_decide,←mem_intsN,h2]
  ·rw[decide_eq_false_iff_not]
   intro hm;unfold bH at hm;obtain⟨x,_,e⟩:=List.mem_map.1 hm;have:(x:Int)=n:=e
   omega
 rw[e]at this;exact⟨_,rfl,rfl,by rw[af,fB];rfl,this⟩
def cfX:aG:=aE cf0 129 c129
theorem cfX_ok:au Tryz.prog cfX:=ah aa c129_ok
theorem Choice_68(n:Nt)(z zs:Z)(l:List Sn)(c:List Nat)(hz:z=.n->l=[])(hzs:zs=.n->c=[])(hl:l.length<=1000)(hc:c.length<=1000):ab Tryz.prog 68 [.agg (plC n z l),.sl zs (nn c)] [] (.ret (.bool (chB l 0 c))) []:=by
 refine ab.of0 hTT Tryz.func68 rfl rfl ?_;have hd:=dm hzs;have hc1:=aO c;have hcl:c.length<=100000:=by omega
 have hn1:¬(0:Int) <= -1:=by decide
 repeat with_reducible first|apply nx|apply wQ rfl|(first|apply wV|apply wW|apply wX|apply wy aa;kernel_rfl);simp only[Tryz.f68,go_sem];rfl|refine wz aa ?_|refine wa ⟨by kernel_rfl,?_⟩
 refine am.keep [5,2,1] (by simp only[go_sem];rfl) ?_
 refine am.loop (fun i s'=>chB l 0 c=chB (l.drop i) i c∧s'=⟨[(5,ii (i:Nat)),(2,.bp 0 0),(1,.sl zs (nn c))],45,[.var (plC n z l) false]⟩) l.length ⟨rfl,by first|(simp only[go_sem];done)|(simp only[go_sem];rfl)|rfl⟩ ?_
 rintro i _ hi ⟨hm,rfl⟩;by_cases hlt:i<l.length
 ·obtain⟨x,hx⟩:∃x,l[i]?=some x:=⟨_,List.getElem?_eq_getElem hlt⟩
  have hx':=cU hx;have hlt':(i:Int)<l.length:=by omega
  have hz':z≠.n:=fun e=>by rw[hz e]at hlt;simp at hlt
  have e4:IntKind.i64.wrap ((i:Int)+1)=((i+1:Nat):Int):=ai (by omega) (by omega)
  have hi0:(0:Int)<=(i:Int):=by omega
  rw[aP hx,chB]at hm;cases hxl:x.loose
  ·rw[hxl]at hm hx'
   cases hb:decide (i∈c)
   ·have hb2:(i∈c)=False:=eq_false (of_decide_eq_false hb)
    repeat with_reducible first|apply nx|apply wQ rfl|(first|apply wV|apply wW|apply wX|apply wy cfX_ok;kernel_rfl);simp only[Tryz.f68,cfX,c129,hx',hlt',hz',hd,hc1,hcl,hi0,hb2,Int.toNat_natCast,length_map,go_sem];rfl|refine wz cfX_ok ?_|refine wa ⟨by kernel_rfl,?_⟩
    refine⟨rfl,rfl,_,rfl,?_⟩;rw[hm,hb];rfl
   ·have hb2:(i∈c)=True:=eq_true (of_decide_eq_true hb)
    repeat with_reducible first|apply nx|apply wQ rfl|(first|apply wV|apply wW|apply wX|apply wy cfX_ok;kernel_rfl);simp only[Tryz.f68,cfX,c129,hx',hlt',hz',hd,hc1,hcl,hi0,hb2,hn1,e4,ge_iff_le,Int.toNat_natCast,length_map,go_sem];rfl|refine wz cfX_ok ?_|refine wa ⟨by kernel_rfl,?_⟩
    refine ak.t 1 [5,2,1] hlt (by simp only[aK,cb,an,go_sem]) ⟨by rw[hm,hb];rfl,by first|(simp only[go_sem];done)|(simp only[go_sem];rfl)|rfl⟩
  ·rw[hxl]at hm hx'
   cases hb:decide (i∈c)
   ·have hb2:(i∈c)=False:=eq_false (of_decide_eq_false hb)
    repeat with_reducible first|apply nx|apply wQ rfl|(first|apply wV|apply wW|apply wX|apply wy cfX_ok;kernel_rfl);simp only[Tryz.f68,cfX,c129,hx',hlt',hz',hd,hc1,hcl,hi0,hb2,hn1,e4,ge_iff_le,Int.toNat_natCast,length_map,go_sem];rfl|refine wz cfX_ok ?_|refine wa ⟨by kernel_rfl,?_⟩
    refine ak.t 1 [5,2,1] hlt (by simp only[aK,cb,an,go_sem]) ⟨by rw[hm];rfl,by first|(simp only[go_sem];done)|(simp only[go_sem];rfl)|rfl⟩
   ·have hb2:(i∈c)=True:=eq_true (of_decide_eq_true hb)
    repeat with_reducible first|apply nx|apply wQ rfl|(first|apply wV|apply wW|apply wX|apply wy cfX_ok;kernel_rfl);simp only[Tryz.f68,cfX,c129,hx',hlt',hz',hd,hc1,hcl,hi0,hb2,hn1,e4,ge_iff_le,Int.toNat_natCast,length_map,go_sem];rfl|refine wz cfX_ok ?_|refine wa ⟨by kernel_rfl,?_⟩
    refine ak.t 1 [5,2,1] hlt (by simp only[aK,cb,an,go_sem]) ⟨by rw[hm];rfl,by first|(simp only[go_sem];done)|(simp only[go_sem];rfl)|rfl⟩
 ·have hlt':¬(i:Int)<l.length:=by omega
  obtain rfl:i=l.length:=by omega
  rw[List.drop_length]at hm;repeat with_reducible first|apply nx|apply wQ rfl|(first|apply wV|apply wW|apply wX|apply wy cfX_ok;kernel_rfl);simp only[Tryz.f68,hlt',length_map,go_sem];rfl|refine wz cfX_ok ?_|refine wa ⟨by kernel_rfl,?_⟩
  refine⟨rfl,rfl,_,rfl,?_⟩;rw[hm];rfl
def c68:Tb_
 |[v,w],sg=>match eS v,gN w with
  |some (_,_,l),some c=>if l.length<=1000∧c.length<=1000 then some (.ret (.bool (chB l 0 c)),sg)else none
  |_,_=>none
 |_,_=>none
theorem c68_ok:al Tryz.prog 68 c68:=al.of0 (ent Tryz.func68 rfl) fun args sg r sg' h=>by
 unfold c68 at h;split at h <;> try (cases h;done)
 split at h <;> try (cases h;done)
 rename_i n z l c h1 h2;split at h <;> cases h
 rename_i hc;obtain⟨rfl,hz⟩:=b8 h1;obtain⟨zs,rfl,hzs⟩:=cW h2;exact⟨_,rfl,rfl,by rw[af,af,fi,fB];rfl,Choice_68 n z zs l c hz hzs hc.1 hc.2⟩
end Go.Pv
