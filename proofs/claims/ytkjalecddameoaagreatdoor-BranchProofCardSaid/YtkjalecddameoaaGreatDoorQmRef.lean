import Derived.Test.YtkjalecddameoaaGreatDoorQmNt
import Derived.Test.YtkjalecddameoaaGreatDoorQiPut
set_option linter.all false
open List (length_map)
namespace Go.Pv
open Go Go.RowKit Go.Proofs
set_option maxRecDepth 200000
set_option maxHeartbeats 8000000
theorem in_125(x a b:Int):ab Tryz.prog 125 [ii x,ii a,ii b] [] (.ret (.bool (inB x a b))) []:=by
 refine ab.of0 hTT Tryz.func125 rfl rfl ?_;unfold inB;by_cases h1:a<=x <;> by_cases h2:x<=b
 all_goals
  repeat with_reducible first|apply nx|apply wQ rfl|(first|apply wV|apply wW|apply wX|apply wy aa;kernel_rfl);simp only[Tryz.f125,ge_iff_le,h1,h2,go_sem];rfl|refine wz aa ?_|refine wa ⟨by kernel_rfl,?_⟩
  refine⟨rfl,rfl,_,rfl,?_⟩;simp only[h1,h2];rfl
theorem xH:al Tryz.prog 125 cin:=al.of0 (ent Tryz.func125 rfl) fun args sg r sg' h=>by
 unfold cin at h;split at h <;> cases h
 exact⟨_,rfl,rfl,rfl,in_125 _ _ _⟩
def cfW:aG:=aE cf0 125 cin
theorem bS:au Tryz.prog cfW:=ah aa xH
theorem wI(w:Int×Int):ab Tryz.prog 126 [.agg [ii w.1,ii w.2]] [] (.ret (.bool (fD w))) []:=by
 refine ab.of0 hTT Tryz.func126 rfl rfl ?_;unfold fD;cases a1:inB w.1 0 900
 ·repeat with_reducible first|apply nx|apply wQ rfl|(first|apply wV|apply wW|apply wX|apply wy bS;kernel_rfl);simp only[Tryz.f126,cfW,cin,a1,go_sem];rfl|refine wz bS ?_|refine wa ⟨by kernel_rfl,?_⟩
  exact⟨rfl,rfl,_,rfl,rfl⟩
 cases a2:inB w.2 w.1 900
 ·repeat with_reducible first|apply nx|apply wQ rfl|(first|apply wV|apply wW|apply wX|apply wy bS;kernel_rfl);simp only[Tryz.f126,cfW,cin,a1,a2,go_sem];rfl|refine wz bS ?_|refine wa ⟨by kernel_rfl,?_⟩
  exact⟨rfl,rfl,_,rfl,rfl⟩
 have b1:=bm.1 a1;have b2:=bm.1 a2;have e1:IntKind.i64.wrap (w.2-w.1)=w.2-w.1:=ai (by omega) (by omega)
 repeat with_reducible first|apply nx|apply wQ rfl|(first|apply wV|apply wW|apply wX|apply wy bS;kernel_rfl);simp only[Tryz.f126,cfW,cin,a1,a2,e1,go_sem];rfl|refine wz bS ?_|refine wa ⟨by kernel_rfl,?_⟩
 exact⟨rfl,rfl,_,rfl,rfl⟩
def c126:Tb_
 |[v],sg=>match decW v with
  |some w=>some (.ret (.bool (fD w)),sg)
  |none=>none
 |_,_=>none
theorem c126_ok:al Tryz.prog 126 c126:=al.of0 (ent Tryz.func126 rfl) fun args sg r sg' h=>by
 unfold c126 at h;split at h <;> try (cases h;done)
 split at h <;> cases h
 rename_i w h1;obtain rfl:=uM h1;exact⟨_,rfl,rfl,rfl,wI w⟩
theorem part_at{l:List Sn}{i:Nat}{y:Sn}(h0:0<i)(h:l[i-1]?=some y):gT l i=y.part:=by
 obtain⟨j,rfl⟩:∃j,i=j+1:=⟨i-1,by omega⟩
 exact mP h
theorem wT(n:Nt)(z:Z)(l:List Sn)(hz:z=.n->l=[])(hl:l.length<=1000):ab Tryz.prog 127 [.agg (plC n z l)] [] (.ret (.bool (kK 0 l&&decide (bI l<=6)))) []:=by
 refine ab.of0 hTT Tryz.func127 rfl rfl ?_;have hcl:=ay l;repeat with_reducible first|apply nx|apply wQ rfl|(first|apply wV|apply wW|apply wX|apply wy aa;kernel_rfl);simp only[Tryz.f127,go_sem];rfl|refine wz aa ?_|refine wa ⟨by kernel_rfl,?_⟩
 refine am.keep [4,3,1] (by simp only[go_sem];rfl) ?_
 refine am.loop (fun i s'=>kK 0 l=kK (gT l i) (l.drop i)∧0<=gT l i∧s'=⟨[(4,ii (i:Nat)),(3,ii (bI (l.take i):Nat)),(1,.bp 0 0)],74,[.var (plC n z l) false]⟩) l.length ⟨rfl,Int.le_refl _,by first|(simp only[go_sem];done)|(simp only[go_sem];rfl)|rfl⟩ ?_
 rintro i _ hi ⟨hm,hp0,rfl⟩;by_cases hlt:i<l.length
 ·obtain⟨x,hx⟩:∃x,l[i]?=some x:=⟨_,List.getElem?_eq_getElem hlt⟩
  have hx':=cU hx;have hlt':(i:Int)<l.length:=by omega
  have hz':z≠.n:=fun e=>by rw[hz e]at hlt;simp at hlt
  have e4:IntKind.i64.wrap ((i:Int)+1)=((i+1:Nat):Int):=ai (by omega) (by omega)
  have e5:IntKind.i64.wrap ((l.length:Int)-1)=(l.length:Int)-1:=ai (by omega) (by omega)
  have hpn:=mP hx;have hlo:=kj hx;have hll:=pF (l.take i);rw[List.length_take]at hll;rw[aP hx,kK]at hm;have q4:inB (-1) (-1) ((l.length:Int)-1)=true:=bm.2 (by omega)
  have q5:((-1:Int)==(i:Int))=false:=by rw[beq_eq_false_iff_ne];omega
  have e6:IntKind.i64.wrap ((bI (l.take i):Int)+1)=((bI (l.take i)+1:Nat):Int):=ai (by omega) (by omega)
  cases c1:inB x.part 0 2
  ·have hb:inB x.part (gT l i) 2=false:=by
    cases h:inB x.part (gT l i) 2
    ·rfl
    ·have:=bm.1 h
     rw[bm.2 (by omega)]at c1;cases c1
   repeat with_reducible first|apply nx|apply wQ rfl|(first|apply wV|apply wW|apply wX|apply wy bS;kernel_rfl);simp only[Tryz.f127,cfW,cin,hx',hlt',hz',c1,length_map,go_sem];rfl|refine wz bS ?_|refine wa ⟨by kernel_rfl,?_⟩
   refine⟨rfl,rfl,_,rfl,?_⟩;rw[hm,hb];rfl
  have d1:=bm.1 c1;by_cases h0:i=0
  ·have hg:¬(0:Int)<(i:Int):=by omega
   have hpa:gT l i=0:=by subst h0;rfl
   rw[hpa]at hm;rw[c1]at hm;simp only[Bool.true_and]at hm;cases c2:inB x.least 1 240
   ·repeat with_reducible first|apply nx|apply wQ rfl|(first|apply wV|apply wW|apply wX|apply wy bS;kernel_rfl);simp only[Tryz.f127,cfW,cin,hx',hlt',hz',c1,c2,hg,gt_iff_lt,length_map,go_sem];rfl|refine wz bS ?_|refine wa ⟨by kernel_rfl,?_⟩
    refine⟨rfl,rfl,_,rfl,?_⟩;rw[hm,c2];rfl
   cases c3:inB x.most x.least 240
   ·repeat with_reducible first|apply nx|apply wQ rfl|(first|apply wV|apply wW|apply wX|apply wy bS;kernel_rfl);simp only[Tryz.f127,cfW,cin,hx',hlt',hz',c1,c2,c3,hg,gt_iff_lt,length_map,go_sem];rfl|refine wz bS ?_|refine wa ⟨by kernel_rfl,?_⟩
    refine⟨rfl,rfl,_,rfl,?_⟩;rw[hm,c2,c3];rfl
   rw[c2,c3]at hm;simp only[Bool.true_and]at hm;cases hxl:x.loose
   ·rw[hxl]at hlo hx'
    repeat with_reducible first|apply nx|apply wQ rfl|(first|apply wV|apply wW|apply wX|apply wy bS;kernel_rfl);simp only[Tryz.f127,cfW,cin,hx',hlt',hz',c1,c2,c3,hg,q4,q5,e4,e5,gt_iff_lt,length_map,go_sem];rfl|refine wz bS ?_|refine wa ⟨by kernel_rfl,?_⟩
    refine ak.t 1 [4,3,1] hlt (by simp only[aK,an,go_sem]) ⟨by rw[hm,hpn],by rw[hpn];exact d1.1,by rw[hlo];first|(simp only[go_sem];done)|(simp only[go_sem];rfl)|rfl⟩
   ·rw[hxl]at hlo hx'
    repeat with_reducible first|apply nx|apply wQ rfl|(first|apply wV|apply wW|apply wX|apply wy bS;kernel_rfl);simp only[Tryz.f127,cfW,cin,hx',hlt',hz',c1,c2,c3,hg,q4,q5,e4,e5,e6,gt_iff_lt,length_map,go_sem];rfl|refine wz bS ?_|refine wa ⟨by kernel_rfl,?_⟩
    refine ak.t 1 [4,3,1] hlt (by simp only[aK,an,go_sem]) ⟨by rw[hm,hpn],by rw[hpn];exact d1.1,by rw[hlo];first|(simp only[go_sem];done)|(simp only[go_sem];rfl)|rfl⟩
  ·have hg:(0:Int)<(i:Int):=by omega
   obtain⟨y,hy⟩:∃y,l[i-1]?=some y:=⟨_,List.getElem?_eq_getElem (by omega)⟩
   have hy':=cU hy;have e7:IntKind.i64.wrap ((i:Int)-1)=((i-1:Nat):Int):=(ai (by omega) (by omega)).trans (by omega)
   have hlt2:((i-1:Nat):Int)<l.length:=by omega
   have hpa:gT l i=y.part:=part_at (by omega) hy
   rw[hpa]at hm hp0;generalize i-1=j at hy hy' e7 hlt2;by_cases c0:x.part<y.part
   ·have hb:inB x.part y.part 2=false:=by
     cases h:inB x.part y.part 2
     ·rfl
     ·have:=bm.1 h;omega
    repeat with_reducible first|apply nx|apply wQ rfl|(first|apply wV|apply wW|apply wX|apply wy bS;kernel_rfl);simp only[Tryz.f127,cfW,cin,hx',hy',hlt',hlt2,hz',c0,c1,e7,hg,gt_iff_lt,length_map,go_sem];rfl|refine wz bS ?_|refine wa ⟨by kernel_rfl,?_⟩
    refine⟨rfl,rfl,_,rfl,?_⟩;rw[hm,hb];rfl
   rw[bm.2 (show y.part<=x.part∧x.part<=2 by omega)]at hm
   simp only[Bool.true_and]at hm;cases c2:inB x.least 1 240
   ·repeat with_reducible first|apply nx|apply wQ rfl|(first|apply wV|apply wW|apply wX|apply wy bS;kernel_rfl);simp only[Tryz.f127,cfW,cin,hx',hy',hlt',hlt2,hz',c0,c1,c2,e7,hg,gt_iff_lt,length_map,go_sem];rfl|refine wz bS ?_|refine wa ⟨by kernel_rfl,?_⟩
    refine⟨rfl,rfl,_,rfl,?_⟩;rw[hm,c2];rfl
   cases c3:inB x.most x.least 240
   ·repeat with_reducible first|apply nx|apply wQ rfl|(first|apply wV|apply wW|apply wX|apply wy bS;kernel_rfl);simp only[Tryz.f127,cfW,cin,hx',hy',hlt',hlt2,hz',c0,c1,c2,c3,e7,hg,gt_iff_lt,length_map,go_sem];rfl|refine wz bS ?_|refine wa ⟨by kernel_rfl,?_⟩
    refine⟨rfl,rfl,_,rfl,?_⟩;rw[hm,c2,c3];rfl
   rw[c2,c3]at hm;simp only[Bool.true_and]at hm;cases hxl:x.loose
   ·rw[hxl]at hlo hx'
    repeat with_reducible first|apply nx|apply wQ rfl|(first|apply wV|apply wW|apply wX|apply wy bS;kernel_rfl);simp only[Tryz.f127,cfW,cin,hx',hy',hlt',hlt2,hz',c0,c1,c2,c3,e7,hg,q4,q5,e4,e5,gt_iff_lt,length_map,go_sem];rfl|refine wz bS ?_|refine wa ⟨by kernel_rfl,?_⟩
    refine ak.t 1 [4,3,1] hlt (by simp only[aK,an,go_sem]) ⟨by rw[hm,hpn],by rw[hpn];exact d1.1,by rw[hlo];first|(simp only[go_sem];done)|(simp only[go_sem];rfl)|rfl⟩
   ·rw[hxl]at hlo hx'
    repeat with_reducible first|apply nx|apply wQ rfl|(first|apply wV|apply wW|apply wX|apply wy bS;kernel_rfl);simp only[Tryz.f127,cfW,cin,hx',hy',hlt',hlt2,hz',c0,c1,c2,c3,e7,hg,q4,q5,e4,e5,e6,gt_iff_lt,length_map,go_sem];rfl|refine wz bS ?_|refine wa ⟨by kernel_rfl,?_⟩
    refine ak.t 1 [4,3,1] hlt (by simp only[aK,an,go_sem]) ⟨by rw[hm,hpn],by rw[hpn];exact d1.1,by rw[hlo];first|(simp only[go_sem];done)|(simp only[go_sem];rfl)|rfl⟩
 ·have hlt':¬(i:Int)<l.length:=by omega
  obtain rfl:i=l.length:=by omega
  rw[List.drop_length]at hm;rw[List.take_length];have hd:decide ((bI l:Int)<=6)=decide (bI l<=6):=by rw[decide_eq_decide];omega
  repeat with_reducible first|apply nx|apply wQ rfl|(first|apply wV|apply wW|apply wX|apply wy bS;kernel_rfl);simp only[Tryz.f127,hlt',hd,length_map,go_sem];rfl|refine wz bS ?_|refine wa ⟨by kernel_rfl,?_⟩
  refine⟨rfl,rfl,_,rfl,?_⟩;rw[hm];rfl
def c127:Tb_
 |[v],sg=>match eS v with
  |some (_,_,l)=>if l.length<=1000 then some (.ret (.bool (kK 0 l&&decide (bI l<=6))),sg)else none
  |none=>none
 |_,_=>none
theorem c127_ok:al Tryz.prog 127 c127:=al.of0 (ent Tryz.func127 rfl) fun args sg r sg' h=>by
 unfold c127 at h;split at h <;> try (cases h;done)
 split at h <;> try (cases h;done)
 rename_i n z l h1;split at h <;> cases h
 rename_i hc;obtain⟨rfl,hz⟩:=b8 h1;exact⟨_,rfl,rfl,by rw[af,fi];rfl,wT n z l hz hc⟩
def cfW2:aG:=aE (aE cfW 126 c126) 127 c127
theorem ek:au Tryz.prog cfW2:=ah (ah bS c126_ok) c127_ok
theorem Plan_66(n:Nt)(z:Z)(l:List Sn)(hz:z=.n->l=[])(hl:l.map nof=l):ab Tryz.prog 66 [.agg (plC n z l)] [] (.ret (.bool (du n l))) []:=by
 refine ab.of0 hTT Tryz.func66 rfl rfl ?_;have hcl:=ay l;have hdn:=dt (n:=n) hz hl;have hpb:du n l=(inB n.b 0 900&&(fD n.w0&&(fD n.w1&&(fD n.w2&&(inB l.length 1 10&&(kK 0 l&&decide (bI l<=6))))))):=by
  unfold du evB;generalize inB n.b 0 900=b1;generalize inB l.length 1 10=b2;generalize fD n.w0=b3;generalize fD n.w1=b4;generalize fD n.w2=b5;generalize kK 0 l=b6;generalize decide (bI l<=6)=b7
  revert b1 b2 b3 b4 b5 b6 b7
  decide
 rw[hpb];have w0:decW (.agg [ii n.w0.1,ii n.w0.2])=some n.w0:=rfl;have w1:decW (.agg [ii n.w1.1,ii n.w1.2])=some n.w1:=rfl;have w2:decW (.agg [ii n.w2.1,ii n.w2.2])=some n.w2:=rfl;cases a1:inB n.b 0 900
 ·repeat with_reducible first|apply nx|apply wQ rfl|(first|apply wV|apply wW|apply wX|apply wy ek;kernel_rfl);simp only[Tryz.f66,cfW2,cfW,cin,a1,go_sem];rfl|refine wz ek ?_|refine wa ⟨by kernel_rfl,?_⟩
  exact⟨rfl,rfl,_,rfl,rfl⟩
 cases a2:fD n.w0
 ·repeat with_reducible first|apply nx|apply wQ rfl|(first|apply wV|apply wW|apply wX|apply wy ek;kernel_rfl);simp only[Tryz.f66,cfW2,cfW,cin,c126,w0,a1,a2,go_sem];rfl|refine wz ek ?_|refine wa ⟨by kernel_rfl,?_⟩
  exact⟨rfl,rfl,_,rfl,rfl⟩
 cases a3:fD n.w1
 ·repeat with_reducible first|apply nx|apply wQ rfl|(first|apply wV|apply wW|apply wX|apply wy ek;kernel_rfl);simp only[Tryz.f66,cfW2,cfW,cin,c126,w0,w1,a1,a2,a3,go_sem];rfl|refine wz ek ?_|refine wa ⟨by kernel_rfl,?_⟩
  exact⟨rfl,rfl,_,rfl,rfl⟩
 cases a4:fD n.w2
 ·repeat with_reducible first|apply nx|apply wQ rfl|(first|apply wV|apply wW|apply wX|apply wy ek;kernel_rfl);simp only[Tryz.f66,cfW2,cfW,cin,c126,w0,w1,w2,a1,a2,a3,a4,go_sem];rfl|refine wz ek ?_|refine wa ⟨by kernel_rfl,?_⟩
  exact⟨rfl,rfl,_,rfl,rfl⟩
 cases a5:inB l.length 1 10
 ·repeat with_reducible first|apply nx|apply wQ rfl|(first|apply wV|apply wW|apply wX|apply wy ek;kernel_rfl);simp only[Tryz.f66,cfW2,cfW,cin,c126,w0,w1,w2,a1,a2,a3,a4,a5,length_map,go_sem];rfl|refine wz ek ?_|refine wa ⟨by kernel_rfl,?_⟩
  exact⟨rfl,rfl,_,rfl,rfl⟩
 have b5:=bm.1 a5;have hln:l.length<=1000:=by omega
 repeat with_reducible first|apply nx|apply wQ rfl|(first|apply wV|apply wW|apply wX|apply wy ek;kernel_rfl);simp only[Tryz.f66,cfW2,cfW,cin,c126,c127,w0,w1,w2,a1,a2,a3,a4,a5,hdn,hln,hcl,length_map,go_sem];rfl|refine wz ek ?_|refine wa ⟨by kernel_rfl,?_⟩
 exact⟨rfl,rfl,_,rfl,rfl⟩
def c66:Tb_
 |[v],sg=>match eS v with
  |some (n,_,l)=>some (.ret (.bool (du n l)),sg)
  |none=>none
 |_,_=>none
theorem Dz:al Tryz.prog 66 c66:=al.of0 (ent Tryz.func66 rfl) fun args sg r sg' h=>by
 unfold c66 at h;split at h <;> try (cases h;done)
 split at h <;> cases h
 rename_i n z l h1;have hl:=eV h1;obtain⟨rfl,hz⟩:=b8 h1;exact⟨_,rfl,rfl,by rw[af,fi];rfl,Plan_66 n z l hz hl⟩
end Go.Pv
