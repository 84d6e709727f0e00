import Derived.Shelf.Sort.Plain
import Derived.Shelf.Slices.CompactI
import Derived.Shelf.Slices.In.SortNone
import Derived.Test.YtkahmnpcfghpiaaGreatQgEnds
set_option linter.all false
open Go.Proofs.Tryz
namespace Go.Proofs
open Go.Shelf
def sort96_ren:Go.Shelf.Ren:=⟨fun|125=>116|128=>173|129=>174|189=>60|215=>201|216=>170|257=>115|294=>164|295=>165|296=>166|297=>167|298=>168|299=>169|300=>171|301=>172|328=>208|329=>209|330=>210|331=>211|332=>212|343=>218|n=>n,fun|0=>0|3=>3|4=>4|5=>5|9=>9|28=>31|46=>196|51=>250|53=>252|131=>247|182=>241|183=>242|218=>277|222=>281|228=>286|229=>287|n=>n,fun|n=>n⟩
theorem sort96:Go.Proofs.Lays.n189 prog sort96_ren:={
 mixed:=by kernel_rfl
 f125:=func116.trans (congrArg some (by kernel_rfl))
 f128:=func173.trans (congrArg some (by kernel_rfl))
 f129:=func174.trans (congrArg some (by kernel_rfl))
 f189:=func60.trans (congrArg some (by kernel_rfl))
 f215:=func201.trans (congrArg some (by kernel_rfl))
 f216:=func170.trans (congrArg some (by kernel_rfl))
 f257:=func115.trans (congrArg some (by kernel_rfl))
 f294:=func164.trans (congrArg some (by kernel_rfl))
 f295:=func165.trans (congrArg some (by kernel_rfl))
 f296:=func166.trans (congrArg some (by kernel_rfl))
 f297:=func167.trans (congrArg some (by kernel_rfl))
 f298:=func168.trans (congrArg some (by kernel_rfl))
 f299:=func169.trans (congrArg some (by kernel_rfl))
 f300:=func171.trans (congrArg some (by kernel_rfl))
 f301:=func172.trans (congrArg some (by kernel_rfl))
 f328:=func208.trans (congrArg some (by kernel_rfl))
 f329:=func209.trans (congrArg some (by kernel_rfl))
 f330:=func210.trans (congrArg some (by kernel_rfl))
 f331:=func211.trans (congrArg some (by kernel_rfl))
 f332:=func212.trans (congrArg some (by kernel_rfl))
 f343:=func218.trans (congrArg some (by kernel_rfl))
 t0:=underlying0
 a0:=isAgg0
 z0:=sizeOf0
 v0:=zeroValue0
 t3:=underlying3
 a3:=isAgg3
 z3:=sizeOf3
 v3:=zeroValue3
 t4:=underlying4
 a4:=isAgg4
 z4:=sizeOf4
 v4:=zeroValue4
 t5:=underlying5
 a5:=isAgg5
 z5:=sizeOf5
 v5:=zeroValue5
 t9:=underlying9
 a9:=isAgg9
 z9:=sizeOf9
 v9:=zeroValue9
 t28:=underlying31
 a28:=isAgg31
 z28:=sizeOf31
 v28:=zeroValue31
 t46:=underlying196
 a46:=isAgg196
 z46:=sizeOf196
 v46:=zeroValue196
 t51:=underlying250
 a51:=isAgg250
 z51:=sizeOf250
 v51:=zeroValue250
 t53:=underlying252
 a53:=isAgg252
 z53:=sizeOf252
 v53:=zeroValue252
 t131:=underlying247
 a131:=isAgg247
 z131:=sizeOf247
 v131:=zeroValue247
 t182:=underlying241
 a182:=isAgg241
 z182:=sizeOf241
 v182:=zeroValue241
 t183:=underlying242
 a183:=isAgg242
 z183:=sizeOf242
 v183:=zeroValue242
 t218:=underlying277
 a218:=isAgg277
 z218:=sizeOf277
 v218:=zeroValue277
 t222:=underlying281
 a222:=isAgg281
 z222:=sizeOf281
 v222:=zeroValue281
 t228:=underlying286
 a228:=isAgg286
 z228:=sizeOf286
 v228:=zeroValue286
 t229:=underlying287
 a229:=isAgg287
 z229:=sizeOf287
 v229:=zeroValue287
}
def compact97_ren:Go.Shelf.Ren:=⟨fun|20=>61|n=>n,fun|0=>0|3=>3|4=>4|22=>31|n=>n,fun|n=>n⟩
theorem compact97:Go.Proofs.Lays2.n20 prog compact97_ren:={
 mixed:=by kernel_rfl
 f20:=func61.trans (congrArg some (by kernel_rfl))
 t0:=underlying0
 a0:=isAgg0
 z0:=sizeOf0
 v0:=zeroValue0
 t3:=underlying3
 a3:=isAgg3
 z3:=sizeOf3
 v3:=zeroValue3
 t4:=underlying4
 a4:=isAgg4
 z4:=sizeOf4
 v4:=zeroValue4
 t22:=underlying31
 a22:=isAgg31
 z22:=sizeOf31
 v22:=zeroValue31
 i3:=by kernel_rfl
}
end Go.Proofs
namespace Go.Pv
open Go Go.RowKit Go.Proofs Go.Shelf Go.Sort
set_option maxRecDepth 10000
set_option maxHeartbeats 4000000
def zwf(l:List Int):Prop:=∀x∈l,(Lit.int .i64 x).wf=true
theorem eX(l:List Int):flat (l.map ii)=l.map ii:=by
 induction l with
 |nil=>rfl
 |cons x l ih=>rw[EE,bg,ih];rfl
theorem ints_of{G:Gh}{l:List Int}{us:List Value}(h:RepL G (l.map ii) us.toArray):us=l.map (Value.int .i64)∧zwf l:=by
 obtain⟨h1,h2⟩:=h;have hl:us.length=l.length:=by simpa using h1
 have key:∀i,i<l.length->us[i]?=(l.map (Value.int .i64))[i]?∧∀x,l[i]?=some x->(Lit.int .i64 x).wf=true:=fun i hi=>by
  obtain⟨x,hx⟩:=gex hi;obtain⟨u,hu⟩:∃u,us[i]?=some u:=⟨_,DT (by omega)⟩
  have:=h2 i (ii x) u (by rw[Eh,hx];rfl) (by simpa using hu)
  cases this with
  |int hw=>exact⟨by rw[hu,Eh,hx];rfl,fun y hy=>by rw[hx]at hy;cases hy;exact hw⟩
 refine⟨?_,fun x hx=>?_⟩
 ·apply E6
  intro i;by_cases hi:i<l.length
  ·exact(key i hi).1
  ·rw[F5 (by omega),F5 (by simp;omega)]
 ·obtain⟨i,hi,rfl⟩:=List.mem_iff_getElem.1 hx
  exact(key i hi).2 _ (DT hi)
theorem ints_rep(G:Gh){l:List Int}(h:zwf l):RepL G (l.map ii) (l.map (Value.int .i64)).toArray :=
 ⟨by simp,fun j c u hc hu=>by
  simp only[Eh,EC,Gg]at hc hu;obtain⟨x,hx,rfl⟩:=hc;obtain⟨y,hy,rfl⟩:=hu;rw[hx]at hy;cases hy;exact .int (h x (DU hx))⟩
theorem ints_row{G:Gh}{sg:List Box}{w:World}{bi m k:Nat}{v:Value}{z:Bool}{e:TypeId}{l:List Int}(hR:Rel G sg w)(hs:G.rho[bi]?=some (.row v m k))(hb:sg[bi]?=some (.row z e 1 (l.map ii) false))(hne:l≠[]):
 m=l.length∧k=1∧zwf l∧∃b cap,v=.slice (some ⟨b,0,none⟩) l.length cap∧l.length<=cap∧b<w.heap.size∧Holds (Value.int .i64) w b 0 l.toArray ∧
  ∀(l2:List Int) (n:Nat) (os:Array Obj),l2.length=l.length->zwf l2->Rel (G.setSlot bi (.row v l.length 1)) (sg.set bi (.row z e 1 (l2.map ii) false)) (grow (putRow (Value.int .i64) (Sort.ahead w n) b 0 l2.toArray) os)∧Gh.leM sg.length G (G.setSlot bi (.row v l.length 1))∧(G.setSlot bi (.row v l.length 1)).rho[bi]?=some (.row v l.length 1):=by
 have box:=hR.box bi _ _ hs hb;obtain⟨rfl,hml,hz,hk,h1',⟨us,hown,hLs⟩,hS⟩:=box;rw[DX]at hml;subst hml;rw[eX]at hLs;obtain⟨rfl,hwf⟩:=ints_of hLs;refine⟨rfl,rfl,hwf,?_⟩;rcases hown.2 with ⟨rfl,hl0⟩|⟨b,cap,cur,rfl,hbase,hheap,hcap,hmax,hcs,htk⟩
 ·exact absurd (Ew.1 hl0) hne
 have hblk:b<w.heap.size:=ba hheap;have hSn:∀o,G.S b o=none:=fun o=>hS b rfl o (.inl rfl)
 refine⟨b,cap,rfl,hcap,hblk,fun j hj=>?_,fun l2 n os hl2 hw2=>?_⟩
 ·have hj:j<l.length:=by simpa using hj
  rw[EG];constructor
  ·have:=hown.cellAt j (by omega)
   rw[this];simp[hj]
  ·exact hown.frozenAt j
 have hg:w.grownBy (grow (putRow (Value.int .i64) (Sort.ahead w n) b 0 l2.toArray) os) (some b):=by
  refine⟨rfl,rfl,rfl,?_,fun i hi hne=>?_⟩
  ·rw[size_grow]
   show w.heap.size<=(putRow _ (Sort.ahead w n) b 0 _).heap.size+_;rw[GQ];exact Nat.le_add_right _ _
  ·have hi':i<(putRow (Value.int .i64) (Sort.ahead w n) b 0 l2.toArray).heap.size:=by
    rw[GQ];exact hi
   rw[heap_grow_old _ _ hi']
   show((w.heap).modify b _)[i]?=_
   rw[Fx,D5 (fun e=>hne (by rw[e]))]
 have hget:(G.setSlot bi (.row (.slice (some ⟨b,0,none⟩) l.length cap) l.length 1)).rho[bi]?=some (.row (.slice (some ⟨b,0,none⟩) l.length cap) l.length 1):=by
  simp[Gh.setSlot,(DR.1 hs).1]
 refine⟨?_,(G.setSlot_le bi _ _ hs (Slot.le_refl _)).leM _,hget⟩;refine hR.change hs (Slot.le_refl _) hg (fun g h=>.inl h) (fun g h=>by cases h;exact hbase) (fun g h o v hv=>by cases h;rw[hSn]at hv;cases hv) (fun g h es c hm=>?_) (fun g h hd=>?_) ?_
 ·cases h
  have:=hR.stM _ _ _ hm
  rw[hheap]at this;cases this
 ·cases h
  have:=(hR.dfr _ hd).2
  rw[hheap]at this;cases this
 ·have hheap2:(grow (putRow (Value.int .i64) (Sort.ahead w n) b 0 l2.toArray) os).heap[b]?=some (.cells (putCells (Value.int .i64) 0 l2.toArray cur) e (0,0)):=by
   have hi':b<(putRow (Value.int .i64) (Sort.ahead w n) b 0 l2.toArray).heap.size:=by
    rw[GQ];exact hblk
   rw[heap_grow_old _ _ hi']
   show((w.heap).modify b _)[b]?=_
   rw[Fx,DZ rfl,hheap];rfl
  have htk2:(putCells (Value.int .i64) 0 l2.toArray cur).toList.take (l.length*1)=l2.map (Value.int .i64):=by
   have hcs2:l.length<=cur.size:=by rw[hcs];omega
   apply E6;intro i;rw[El];by_cases hi:i<l.length
   ·have hic:i<cur.size:=by omega
    have hi2:i<l2.length:=by omega
    rw[DZ (by omega)]
    simp[putCells,hi2,hic]
   ·rw[D5 (by omega),F5 (by simp;omega)]
  refine⟨rfl,by simp[hl2],hz,?_,?_,⟨l2.map (Value.int .i64),⟨by simp[hl2],.inr ⟨b,cap,_,rfl,hbase,hheap2,hcap,hmax,by simp[putCells,hcs],htk2⟩⟩,by rw[eX];exact ints_rep _ hw2⟩,fun g h o _=>by cases h;exact hSn o⟩
  ·intro x hx
   obtain⟨p,_,rfl⟩:=Ex.1 hx;rfl
  ·intro c hc
   rw[eX]at hc;obtain⟨p,_,rfl⟩:=Ex.1 hc;rfl
theorem ug{G:Gh}{bi n:Nat}{us:Array Value}(h:RepL G [.ms bi n] us):∃u,us=#[u]∧Rep G (.ms bi n) u:=by
 obtain⟨h1,h2⟩:=h;obtain⟨l⟩:=us
 match l,h1 with
 |[u],_=>exact⟨u,rfl,h2 0 _ u rfl rfl⟩
def Ha(l:List Int):List Int:=l.mergeSort fun x y=>decide (x<=y)
theorem Sort_96{sg:List Box}{bi:Nat}{z:Bool}{e:TypeId}{l:List Int}(hb:sg[bi]?=some (.row z e 1 (l.map ii) false))(hne:l≠[])(hlen:l.length<=100000):
 ab prog 60 [.ms bi l.length] sg (.ret (.tuple [])) (sg.set bi (.row z e 1 ((Ha l).map ii) false)):=by
 refine⟨by simp,fun m G w us hR hL=>?_⟩
 obtain⟨u,rfl,hu⟩:=ug hL;cases hu with
 |ms hs hle ho huv =>
 rename_i m' k v;obtain⟨rfl,rfl,hwf,b,cap,rfl,hcap,hblk,hH,hrow⟩:=ints_row hR hs hb hne;obtain rfl:=huv rfl;refine CallsIn.mono (callsIn_wide.2 (Any.slices_Sort_int (P:=prog) (ρ:=sort96_ren) sort96 b 0 cap l w hH hblk (by omega))) ?_
 rintro e' w' ⟨rfl,n,os,rfl⟩;have hl2:(Ha l).length=l.length:=List.length_mergeSort _;obtain⟨a1,a2,_⟩:=hrow (Ha l) n os hl2 fun x hx=>hwf x (List.mem_mergeSort.1 hx)
 exact⟨_,a1,a2,rfl,.tuple rfl fun j c u hc=>by cases hc⟩
theorem jZ(l:List Int):(Lib.compact l).length<=l.length:=by
 unfold Lib.compact Lib.compactUpTo;rw[DX];exact Em (List.length_filter_le ..) (by simp)
theorem zR{l:List Int}{m:Nat}{y:Int}(h:l[m]?=some y):l.toArray[m]! = y:=by
 obtain⟨hm,rfl⟩:=DR.1 h;rw[getElem!_pos _ m (by simpa using hm)]
 simp
theorem mG(l:List Int):∀m,m<=l.length->(∀x∈Lib.compactUpTo l.toArray m,∃j,j<m∧l[j]?=some x)∧∀j x,j<m->l[j]?=some x->x∈Lib.compactUpTo l.toArray m
 |0,_=>⟨(fun x hx=>by cases hx),fun j x hj=>absurd hj (Nat.not_lt_zero _)⟩
 |m+1,hm=>by
  obtain⟨h1,h2⟩:=mG l m (by omega)
  obtain⟨y,hy⟩:∃y,l[m]?=some y:=⟨_,DT (by omega)⟩
  have e:=zR hy;rw[Lib.compactUpTo_succ,e];cases hk:Lib.keeps l.toArray m
  ·have hk':=of_decide_eq_false hk
   have h0:m≠0:=fun e=>hk' (.inl e)
   obtain⟨q,hq⟩:∃q,l[m-1]?=some q:=⟨_,DT (by omega)⟩
   have hyq:y=q:=by
    apply Decidable.byContradiction;intro hne;exact hk' (.inr (by rw[e,zR hq];exact hne))
   rw[D5 (by simp),Er]
   refine⟨fun x hx=>?_,fun j x hj hx=>?_⟩
   ·obtain⟨j,hj,h⟩:=h1 x hx
    exact⟨j,by omega,h⟩
   ·by_cases hjm:j=m
    ·subst hjm
     rw[hy]at hx;cases hx;exact h2 (j-1) _ (by omega) (by rw[hyq];exact hq)
    ·exact h2 j x (by omega) hx
  ·rw[DZ rfl]
   refine⟨fun x hx=>?_,fun j x hj hx=>?_⟩
   ·rcases Ez.1 hx with hx|hx
    ·obtain⟨j,hj,h⟩:=h1 x hx
     exact⟨j,by omega,h⟩
    ·rw[Ed]at hx
     exact⟨m,by omega,by rw[hx];exact hy⟩
   ·by_cases hjm:j=m
    ·subst hjm
     rw[hy]at hx;cases hx;exact Fp _ (Ed.2 rfl)
    ·exact EY _ (h2 j x (by omega) hx)
theorem wZ(l:List Int)(x:Int):x∈Lib.compact l↔x∈l:=by
 obtain⟨h1,h2⟩:=mG l l.length (DS _);constructor
 ·intro hx
  obtain⟨j,_,h⟩:=h1 x hx;exact DU h
 ·intro hx
  obtain⟨j,hj,rfl⟩:=List.mem_iff_getElem.1 hx;exact h2 j _ hj (DT hj)
theorem Hn{l:List Int}(hs:l.Pairwise (·<=·)):∀m,m<=l.length->(Lib.compactUpTo l.toArray m).Pairwise (·<·)
 |0,_=>.nil
 |m+1,hm=>by
  have h0:=Hn hs m (by omega)
  obtain⟨h1,_⟩:=mG l m (by omega)
  obtain⟨y,hy⟩:∃y,l[m]?=some y:=⟨_,DT (by omega)⟩
  have e:=zR hy;rw[Lib.compactUpTo_succ,e];cases hk:Lib.keeps l.toArray m
  ·rw[D5 (by simp),Er];exact h0
  ·rw[DZ rfl,List.pairwise_append]
   refine⟨h0,List.pairwise_singleton ..,fun a ha b hb=>?_⟩
   rw[Ed]at hb;subst hb;obtain⟨j,hj,hja⟩:=h1 a ha;have hk':=Eu hk;obtain⟨q,hq⟩:∃q,l[m-1]?=some q:=⟨_,DT (by omega)⟩
   have hne:b≠q:=by
    rcases hk' with hk' |hk'
    ·omega
    ·rw[e,zR hq]at hk';exact hk'
   have pw:=FQ.1 hs;obtain⟨hm',ey⟩:=DR.1 hy;obtain⟨hq',eq⟩:=DR.1 hq;obtain⟨hj',ea⟩:=DR.1 hja;have hqb:q<=b:=by have:=pw (m-1) m hq' hm' (by omega);rw[ey,eq]at this;exact this
   have haq:a<=q:=by
    by_cases hjm:j=m-1
    ·subst hjm;rw[ea]at eq;omega
    ·have:=pw j (m-1) hj' hq' (by omega);rw[ea,eq]at this;exact this
   omega
theorem sortI_in(l:List Int)(x:Int):x∈Ha l↔x∈l:=List.mem_mergeSort
theorem Iu(l:List Int):(Ha l).length=l.length:=List.length_mergeSort _
theorem sortI_up(l:List Int):(Ha l).Pairwise (·<=·):=by
 have:=List.pairwise_mergeSort (le:=fun x y:Int=>decide (x<=y)) (fun a b c h1 h2=>by simp only[Eo]at *;omega) (fun a b=>by simp only[Fk,Eo];omega) l
 exact this.imp fun h=>Eu h
theorem Iy(l:List Int):(Lib.compact (Ha l)).Pairwise (·<·)∧∀x,x∈Lib.compact (Ha l)↔x∈l :=
 ⟨Hn (sortI_up l) _ (DS _),fun x=>by rw[wZ,sortI_in]⟩
theorem wc{sg:List Box}{bi:Nat}{z:Bool}{e:TypeId}{l:List Int}(hb:sg[bi]?=some (.row z e 1 (l.map ii) false))(hne:l≠[])(hlen:l.length<=100000):
 ab prog 61 [.ms bi l.length] sg (.ret (.pf bi (Lib.compact l).length l.length)) (sg.set bi (.row z e 1 ((Lib.compact l++List.replicate (l.length-(Lib.compact l).length) 0).map ii) false)):=by
 have hs1:=jZ l;have hs2:∀x∈Lib.compact l,x∈l:=fun x hx=>(wZ l x).1 hx
 refine⟨by simp,fun m G w us hR hL=>?_⟩
 obtain⟨u,rfl,hu⟩:=ug hL;cases hu with
 |ms hs hle ho huv =>
 rename_i m' k v;obtain⟨rfl,rfl,hwf,b,cap,rfl,hcap,hblk,hH,hrow⟩:=ints_row hR hs hb hne;obtain rfl:=huv rfl;refine CallsIn.mono (callsIn_wide.2 (Any.slices_Compact_int (P:=prog) (ρ:=compact97_ren) compact97 b 0 cap l w hH (by omega) hcap)) ?_
 rintro e' w' ⟨rfl,n,rfl⟩;have hl2:(Lib.compact l++List.replicate (l.length-(Lib.compact l).length) 0).length=l.length:=by simp;omega
 obtain⟨a1,a2,a3⟩:=hrow _ n #[] hl2 fun x hx=>by
  rcases Ez.1 hx with hx|hx
  ·exact hwf x (hs2 x hx)
  ·rw[(List.mem_replicate.1 hx).2];rfl
 have e0:∀W:World,grow W #[]=W:=fun W=>by simp[grow]
 rw[e0]at a1;exact⟨_,a1,a2,rfl,.pf a3 (DS _) rfl fun _=>⟨hs1,rfl⟩⟩
theorem none_row{G:Gh}{sg:List Box}{w:World}{bi m k:Nat}{v:Value}{z:Bool}{e:TypeId}(hR:Rel G sg w)(hs:G.rho[bi]?=some (.row v m k))(hb:sg[bi]?=some (.row z e 1 [] false)):∃A c,v=.slice A 0 c∧m=0:=by
 have box:=hR.box bi _ _ hs hb;obtain⟨rfl,hml,hz,hk,h1',⟨us,hown,hLs⟩,hS⟩:=box;rcases hown.2 with ⟨rfl,hl0⟩|⟨b,cap,cur,rfl,_⟩
 ·exact⟨_,_,rfl,hml⟩
 ·exact⟨_,_,by rw[hml];rfl,hml⟩
theorem Sort_96n{sg:List Box}{bi:Nat}{z:Bool}{e:TypeId}(hb:sg[bi]?=some (.row z e 1 [] false)):ab prog 60 [.ms bi 0] sg (.ret (.tuple [])) sg:=by
 refine⟨DS _,fun m G w us hR hL=>?_⟩
 obtain⟨u,rfl,hu⟩:=ug hL;cases hu with
 |ms hs hle ho huv =>
 obtain⟨A,c,rfl,rfl⟩:=none_row hR hs hb;obtain rfl:=huv rfl;refine CallsIn.mono (callsIn_wide.2 (Any.slices_Sort_int_none (P:=prog) (ρ:=sort96_ren) sort96 A c w)) ?_;rintro e' w' ⟨rfl,rfl⟩;exact⟨G,hR,bK _ _,rfl,.tuple rfl fun j c u hc=>by cases hc⟩
theorem tn{sg:List Box}{bi:Nat}{z:Bool}{e:TypeId}(hb:sg[bi]?=some (.row z e 1 [] false)):ab prog 61 [.ms bi 0] sg (.ret (.pf bi 0 0)) sg:=by
 refine⟨DS _,fun m G w us hR hL=>?_⟩
 obtain⟨u,rfl,hu⟩:=ug hL;cases hu with
 |ms hs hle ho huv =>
 obtain⟨A,c,rfl,rfl⟩:=none_row hR hs hb;obtain rfl:=huv rfl;refine CallsIn.mono (callsIn_wide.2 (Any.slices_Compact_int_empty (P:=prog) (ρ:=compact97_ren) compact97 A c w)) ?_;rintro e' w' ⟨rfl,rfl⟩;exact⟨G,hR,bK _ _,rfl,.pf hs (DS _) rfl fun _=>⟨DS _,rfl⟩⟩
theorem vb{b:Box}{lr:LoopR}(h:isLoopB b=false)(e:some b=some (Box.loop lr)):False:=by cases e;cases h
theorem Au{α:Type}{l:List α}{i:Nat}{x:α}(h:l[i]?=some x):l.set i x=l:=by
 apply E6;intro j;by_cases hj:i=j
 ·subst hj
  rw[D4 (DR.1 h).1,h]
 ·rw[D8 hj]
theorem HU{sg:List Box}{n:Nat}{a b:Box}(h:sg[n]?=some a)(ha:isLoopB a=false)(hb:isLoopB b=false):SameLoops sg (sg.set n b):=by
 have key:∀i,i≠n->(sg.set n b)[i]?=sg[i]?:=fun i hi=>D8 (fun e=>hi e.symm)
 refine⟨fun i lr e=>?_,fun i lr e=>?_⟩
 ·by_cases hi:i=n
  ·subst hi
   rw[h]at e;exact(vb ha e).elim
  ·exact⟨lr,by rw[key i hi];exact e⟩
 ·by_cases hi:i=n
  ·subst hi
   rw[D4 (DR.1 h).1]at e;exact(vb hb e).elim
  ·exact⟨lr,by rw[←key i hi];exact e⟩
def c96:Tb_
 |[.ms bi n],sg=>match sg[bi]? with
  |some (.row z e 1 es false)=>match dM ld es with
   |some l=>if n=l.length∧l.length<=100000 then some (.ret (.tuple []),sg.set bi (.row z e 1 ((Ha l).map ii) false))else none
   |none=>none
  |_=>none
 |_,_=>none
theorem c96_ok:al prog 60 c96:=fun args sg r sg' h=>by
 unfold c96 at h;split at h <;> try (cases h;done)
 split at h <;> try (cases h;done)
 rename_i hb;split at h <;> try (cases h;done)
 rename_i l hl;split at h <;> cases h
 rename_i hc;obtain⟨rfl,hlen⟩:=hc;obtain rfl:=bv k7 hl;refine⟨ent func60 rfl,?_,HU hb rfl rfl⟩;by_cases hne:l=[]
 ·subst hne
  have e0:Ha []=[]:=List.mergeSort_nil;rw[e0,Au hb];exact Sort_96n hb
 ·exact Sort_96 hb hne hlen
def jX(l:List Int):List Int:=Lib.compact l++List.replicate (l.length-(Lib.compact l).length) 0
theorem pre_rep{G:Gh}{z:Bool}{l:List Int}{A:Option Addr}{n cap d:Nat}(h:Rep G (.sl (if z then .n else .a) (l.map ii)) (.slice A n cap))(hd:d<=l.length)(hz:z=true->l=[]):Rep G (.sl (if z then .n else .a) ((l.take d).map ii)) (.slice A d cap):=by
 cases z with
 |true =>
  obtain rfl:=hz rfl;have h':Rep G (.sl .n []) (.slice A n cap):=h;have hd0:d=0:=by simpa using hd
  subst hd0;cases h' with
  |nils=>exact .nils
  |sl hz'=>exact absurd rfl hz'
 |false =>
  have h':Rep G (.sl .a (l.map ii)) (.slice A n cap):=h;show Rep G (.sl .a ((l.take d).map ii)) (.slice A d cap);cases h' with
  |sl hz' hf k us hk h1 hc hm hS hr hsp =>
   rw[eX]at h1 hS hr;have hl:((l.take d).map ii).length=d:=by simp;omega
   have hc:l.length<=cap:=by simpa using hc
   have:=Rep.sl (G:=G) (z:=.a) (es:=(l.take d).map ii) (cap:=cap) (by simp) (by simp) k us (fun e he=>by
    rw[Fo]at he;exact hk e (Ey he)) (fun c hc'=>by
    rw[eX,Fo]at hc';exact h1 c (Ey hc')) (by omega) hm (fun j c hj=>by
    rw[eX,Fo,El]at hj;split at hj <;> try (cases hj;done)
    exact hS j c hj) (fun j c hj=>by
    rw[eX,Fo,El]at hj;split at hj <;> try (cases hj;done)
    exact hr j c hj) hsp
   rw[hl]at this;exact this
theorem we(l:List Int):(jX l).take (Lib.compact l).length=Lib.compact l:=by unfold jX;simp
theorem mw(l:List Int):(jX l).length=l.length:=by
 have:=jZ l
 unfold jX;simp
 omega
theorem tC{sg:List Box}{bi:Nat}{z:Bool}{e:TypeId}{l:List Int}(hb:sg[bi]?=some (.row z e 1 (l.map ii) false))(hz:z=true->l=[])(hlen:l.length<=100000):
 ab prog 61 [.ms bi l.length] sg (.ret (.sl (if z then .n else .a) ((Lib.compact l).map ii))) (sg.set bi (.row z e 1 ((jX l).map ii) true)):=by
 have h0:ab prog 61 [.ms bi l.length] sg (.ret (.pf bi (Lib.compact l).length l.length)) (sg.set bi (.row z e 1 ((jX l).map ii) false)):=by
  by_cases hne:l=[]
  ·subst hne
   have e0:jX []=[]:=rfl;rw[e0,Au hb];exact tn hb
  ·exact wc hb hne hlen
 have hbl:bi<sg.length:=(DR.1 hb).1;refine⟨by simp,fun m G w us hR hL=>?_⟩
 refine CallsIn.mono (h0.2 m G w us hR hL) fun e' w' ⟨G',hR',hl,hdf,hm⟩=>?_
 cases e' with
 |panicked ch=>exact hm.elim
 |outgrown=>exact hm.elim
 |returned u =>
  have hm':Rep G' (.pf bi (Lib.compact l).length l.length) u:=hm;cases hm' with
  |pf hs hle ho hu =>
  rename_i m' k v;have hbx:(sg.set bi (.row z e 1 ((jX l).map ii) false))[bi]?=some (.row z e 1 ((jX l).map ii) false):=D4 hbl;have box:=hR'.box bi _ _ hs hbx;obtain⟨rfl,hml,hz',hk,h1',⟨us',hown,hLs⟩,hS⟩:=box;have hmn:m'=l.length:=by rw[hml,DX,mw]
  subst hmn;obtain⟨hd,rfl⟩:=hu rfl;obtain⟨A,c,rfl⟩:∃A c,v=.slice A l.length c:=by
   rcases hown.2 with ⟨rfl,hl0⟩|⟨b,cap,cur,rfl,_⟩
   ·rw[hl0];exact⟨_,_,rfl⟩
   ·exact⟨_,_,rfl⟩
  obtain⟨G2,hR2,hle2,hd2,hv2,_,_⟩:=gp hR' none (v:=.ms bi l.length) (u:=.slice A l.length c) (.ms hs (DS _) rfl fun _=>rfl)
  have ef:fC none (sg.set bi (.row z e 1 ((jX l).map ii) false)) (.ms bi l.length)=(.sl (if z then .n else .a) ((jX l).map ii),sg.set bi (.row z e 1 ((jX l).map ii) true)):=by
   unfold fC;simp only[hbx];rw[DZ (by rw[DX,mw]),List.set_set]
  rw[ef]at hR2 hv2;refine⟨G2,hR2,?_,by rw[hd2];exact hdf,?_⟩
  ·exact hl.trans (hle2.leM _) (DS _)
  ·have:=pre_rep hv2 (d:=(Lib.compact l).length) (by rw[mw];exact jZ l) (fun e=>by rw[hz e];rfl)
   rw[we]at this;exact this
def c97f:Tb_
 |[.ms bi n],sg=>match sg[bi]? with
  |some (.row z e 1 es false)=>match dM ld es with
   |some l=>if n=l.length∧l.length<=100000∧(z&&!decide (l.length=0))=false then some (.ret (.sl (if z then .n else .a) ((Lib.compact l).map ii)),sg.set bi (.row z e 1 ((jX l).map ii) true))else none
   |none=>none
  |_=>none
 |_,_=>none
theorem c97f_ok:al prog 61 c97f:=fun args sg r sg' h=>by
 unfold c97f at h;split at h <;> try (cases h;done)
 split at h <;> try (cases h;done)
 rename_i hb;split at h <;> try (cases h;done)
 rename_i l hl;split at h <;> cases h
 rename_i hc;obtain⟨rfl,hlen,hz⟩:=hc;obtain rfl:=bv k7 hl;refine⟨ent func61 rfl,?_,HU hb rfl rfl⟩;refine tC hb (fun e=>?_) hlen
 rw[e,EJ,Bool.not_eq_false',Eo]at hz;exact Ew.1 hz
end Go.Pv
