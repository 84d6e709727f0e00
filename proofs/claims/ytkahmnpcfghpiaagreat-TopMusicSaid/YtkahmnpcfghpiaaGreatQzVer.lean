import Derived.Test.YtkahmnpcfghpiaaGreatQzBk
import Derived.Test.YtkahmnpcfghpiaaGreatQiRef
set_option linter.all false
open Go.Proofs.Tryz
namespace Go.Pv
open Go Go.RowKit Go.Proofs
set_option maxRecDepth 200000
set_option maxHeartbeats 8000000
theorem Lc(v:Ve)(f:List Mv->Bool):v.sts.all f=v.2.all fun q=>f q.2:=by unfold Ve.sts;rw[FS];rfl
theorem KS(v:Ve):v.sts.length=v.2.length:=DX ..
theorem FZ(b:Bk)(v:Ve)(hz:zOk v.1 (v.2.map b0)=true)(hq:∀q∈v.2,zOk q.1 (q.2.map fx)=true)(hcu:b.cues<=1000)(ht:-1000<=b.tunes∧b.tunes<=1000):
 ab prog 104 [.agg b.cells,d6 v] [] (.ret (.bool (mv b.cues b.tunes v.sts))) []:=by
 refine ab.of0 hTT func104 rfl rfl ?_;have hev:d6 v=.agg [.sl v.1 (v.2.map b0)]:=rfl;rw[hev];unfold mv;rw[Lc,KS];cases h1:inB (v.2.length:Int) 1 4
 ·repeat with_reducible first|refine nz k6 ?_|apply ny;simp only[f104,Kq,cin,bl,h1,go_sem];rfl
  exact⟨rfl,rfl,_,rfl,rfl⟩
 ·have hl:=bm.1 h1
  have hS:OwnOk 0 [Box.var b.cells false,.var [.sl v.1 (v.2.map b0)] false]:=fun x hx=>by
   simp only[D6,Eb,EM]at hx;rcases hx with rfl|rfl
   ·exact Ho (oC b)
   ·exact Ho (by simp[ad,PV.closed,cc])
  have hcall:=Kh (g:=154) (cs:=[.bp 0 0,.bp 1 0]) v.1 v.2 (fun q=>!u3 b.cues b.tunes v.2.length q.2) (ent func154 rfl) hS rfl (fun e=>bd hz e) (by omega) fun q hqm=>KT q hS rfl rfl (by omega) ht (hq q hqm) hcu
  rw[J4 (fun q:Se=>u3 b.cues b.tunes v.2.length q.2)]at hcall
  rw[EJ];generalize (v.2.all fun q=>u3 b.cues b.tunes v.2.length q.2)=bb at hcall ⊢
  cases bb
  ·repeat with_reducible first|refine nz (ar k6 (ent func153 rfl) hcall (SameLoops.refl _)) ?_|apply ny;simp only[f104,cp,Kq,cin,bl,h1,go_sem];rfl
   exact⟨rfl,rfl,_,rfl,rfl⟩
  ·repeat with_reducible first|refine nz (ar k6 (ent func153 rfl) hcall (SameLoops.refl _)) ?_|apply ny;simp only[f104,cp,Kq,cin,bl,h1,go_sem];rfl
   exact⟨rfl,rfl,_,rfl,rfl⟩
theorem book_103{S:List Box}{k:Nat}{b:Bk}(v:Ve)(hS:OwnOk 0 S)(hk:S[k]?=some (.var b.cells false))(hz:zOk v.1 (v.2.map b0)=true)(hq:∀q∈v.2,zOk q.1 (q.2.map fx)=true)(hcu:b.cues<=1000)(ht:-1000<=b.tunes∧b.tunes<=1000):
 ab prog 103 [d6 v,.bp k 0] S (.ret (.bool (!mv b.cues b.tunes v.sts))) S:=by
 have hS':∀b∈S,b.Lt S.length:=fun b hb=>by have:=hS b hb;simpa using this
 refine ab.ofB hTT func103 rfl rfl ?_ rfl hS' (th _ _|>.2 trivial);have g0:=dS S;have gs0:=gq S;have gk:=Kk hk;have h:=FZ b v hz hq hcu ht;have hev:d6 v=.agg [.sl v.1 (v.2.map b0)]:=rfl;have hltb:bD 0 [PV.agg b.cells,d6 v]=true:=by rw[af,af,FP,ltB_ve];rfl
 rw[hev]at h hltb ⊢;have hc:=cc v.2;have hc2:=bh b.vs;generalize mv b.cues b.tunes v.sts=bb at h ⊢;cases bb
 ·repeat with_reducible first|refine nz (aj aa (ent func104 rfl) h hltb) ?_|apply ny;simp only[f103,eA,g0,gs0,gk,hc,hc2,go_sem];rfl
  exact⟨rfl,SameLoops.app [.var [.sl v.1 (v.2.map b0)] false] rfl (SameLoops.refl S),rfl,_,rfl⟩
 ·repeat with_reducible first|refine nz (aj aa (ent func104 rfl) h hltb) ?_|apply ny;simp only[f103,eA,g0,gs0,gk,hc,hc2,go_sem];rfl
  exact⟨rfl,SameLoops.app [.var [.sl v.1 (v.2.map b0)] false] rfl (SameLoops.refl S),rfl,_,rfl⟩
theorem zt(b:Bk)(hok:b.ok=true):ab prog 53 [.agg b.cells] [] (.ret (.bool (bkB b))) []:=by
 refine ab.of0 hTT func53 rfl rfl ?_;unfold bkB;cases h1:inB b.cues 1 4
 ·repeat with_reducible first|refine nz k6 ?_|apply ny;simp only[f53,Kq,cin,bl,h1,go_sem];rfl
  exact⟨rfl,rfl,_,rfl,rfl⟩
 cases h2:inB b.tunes 1 6
 ·repeat with_reducible first|refine nz k6 ?_|apply ny;simp only[f53,Kq,cin,bl,h1,h2,go_sem];rfl
  exact⟨rfl,rfl,_,rfl,rfl⟩
 cases h3:inB (b.vs.length:Int) 1 4
 ·repeat with_reducible first|refine nz k6 ?_|apply ny;simp only[f53,Kq,cin,bl,h1,h2,h3,go_sem];rfl
  exact⟨rfl,rfl,_,rfl,rfl⟩
 have hc:=bm.1 h1;have ht:=bm.1 h2;have hl:=bm.1 h3;have hS:OwnOk 0 [Box.var b.cells false]:=fun x hx=>by
  simp only[D6,Eb,EM]at hx;subst hx;exact Ho (oC b)
 have hcall:=J3 (g:=103) (cs:=[.bp 0 0]) b.zv b.vs (fun v=>!mv b.cues b.tunes v.sts) (ent func103 rfl) hS rfl (fun e=>bd (Bk.ok_v hok) e) (by omega) fun v hv=>book_103 v hS rfl (Bk.ok_s hok hv).1 (Bk.ok_s hok hv).2 (by omega) ⟨by omega,by omega⟩
 rw[J4 (fun v:Ve=>mv b.cues b.tunes v.sts)]at hcall
 rw[EJ,EJ,EJ];generalize (b.vs.all fun v=>mv b.cues b.tunes v.sts)=bb at hcall ⊢
 cases bb
 ·repeat with_reducible first|refine nz (ar k6 (ent func102 rfl) hcall (SameLoops.refl _)) ?_|apply ny;simp only[f53,cp,Kq,cin,bl,h1,h2,h3,go_sem];rfl
  exact⟨rfl,rfl,_,rfl,rfl⟩
 ·repeat with_reducible first|refine nz (ar k6 (ent func102 rfl) hcall (SameLoops.refl _)) ?_|apply ny;simp only[f53,cp,Kq,cin,bl,h1,h2,h3,go_sem];rfl
  exact⟨rfl,rfl,_,rfl,rfl⟩
theorem FY(b:Bk)(n:Int)(hl:b.vs.length<=1000):ab prog 54 [.agg b.cells,ii n] [] (.ret (.bool (inB n 0 ((b.vs.length:Int)-1)))) []:=by
 refine ab.of0 hTT func54 rfl rfl ?_;have e1:IntKind.i64.wrap ((b.vs.length:Int)-1)=(b.vs.length:Int)-1:=ai (by omega) (by omega)
 repeat with_reducible first|refine nz k6 ?_|apply ny;simp only[f54,Kq,cin,e1,go_sem];rfl
 exact⟨rfl,rfl,_,rfl,rfl⟩
theorem cue_105{S:List Box}{k:Nat}{b:Bk}(n:Int)(hS:OwnOk 0 S)(hk:S[k]?=some (.var b.cells false))(hc:-1000<=b.cues∧b.cues<=1000):ab prog 105 [ii n,.bp k 0] S (.ret (.bool (!inB n 0 (b.cues-1)))) S:=by
 have hS':∀b∈S,b.Lt S.length:=fun b hb=>by have:=hS b hb;simpa using this
 refine ab.ofB hTT func105 rfl rfl ?_ rfl hS' (th _ _|>.2 trivial);have e1:IntKind.i64.wrap (b.cues-1)=b.cues-1:=ai (by omega) (by omega)
 cases h:inB n 0 (b.cues-1)
 all_goals
  repeat with_reducible first|refine nz k6 ?_|apply ny;simp only[f105,Kq,cin,hk,e1,h,go_sem];rfl
  exact⟨rfl,SameLoops.refl _,rfl,[],by simp⟩
def cusB(b:Bk)(l:List Int):Bool:=decide (l.length<=8)&&l.all fun n=>inB n 0 (b.cues-1)
theorem sm(b:Bk)(z:Z)(l:List Int)(hz:zOk z (l.map ii)=true)(hc:-1000<=b.cues∧b.cues<=1000):ab prog 55 [.agg b.cells,.sl z (l.map ii)] [] (.ret (.bool (cusB b l))) []:=by
 refine ab.of0 hTT func55 rfl rfl ?_;unfold cusB;by_cases h1:l.length<=8
 ·have h1':(l.length:Int)<=8:=by omega
  have hS:OwnOk 0 [Box.var b.cells false]:=fun x hx=>by
   simp only[D6,Eb,EM]at hx;subst hx;exact Ho (oC b)
  have hcall:=CK (g:=105) (cs:=[.bp 0 0]) z l (fun n=>!inB n 0 (b.cues-1)) (ent func105 rfl) hS rfl (fun e=>bd hz e) (by omega) fun n _=>cue_105 n hS rfl hc
  rw[J4 (fun n:Int=>inB n 0 (b.cues-1))]at hcall
  rw[Ej h1,EJ];generalize (l.all fun n=>inB n 0 (b.cues-1))=bb at hcall ⊢
  cases bb
  all_goals
   repeat with_reducible first|refine nz (ar aa (ent func77 rfl) hcall (SameLoops.refl _)) ?_|apply ny;simp only[f55,cp,bl,h1',go_sem];rfl
   exact⟨rfl,rfl,_,rfl,rfl⟩
 ·have h1':¬(l.length:Int)<=8:=by omega
  rw[Ei h1,Bool.false_and];repeat with_reducible first|refine nz aa ?_|apply ny;simp only[f55,bl,h1',go_sem];rfl
  exact⟨rfl,rfl,_,rfl,rfl⟩
theorem KV(v:Ve)(st c:Nat)(q:Se)(m:Mv)(hz:zOk v.1 (v.2.map b0)=true)(hq:v.2[st]?=some q)(hzq:zOk q.1 (q.2.map fx)=true)(hm:q.2[c]?=some m):ab prog 157 [.agg [.sl v.1 (v.2.map b0),ii (st:Int)],ii (c:Int)] [] (.ret (ii m.1)) []:=by
 refine ab.of0 hTT func157 rfl rfl ?_;have h1:(v.2.map b0)[st]?=some (.sl q.1 (q.2.map fx)):=aw hq;have h2:(q.2.map fx)[c]?=some (.agg [ii m.1,ii m.2]):=aw hm;have l1:(st:Int)<v.2.length:=by have:=(DR.1 hq).1;omega
 have l2:(c:Int)<q.2.length:=by have:=(DR.1 hm).1;omega
 have z1:v.1≠.n:=fun e=>by rw[bd hz e]at hq;cases hq
 have z2:q.1≠.n:=fun e=>by rw[bd hzq e]at hm;cases hm
 have hc:=cc v.2;have hc2:=p3 q.2;repeat with_reducible first|refine nz aa ?_|apply ny;simp only[f157,h1,h2,l1,l2,z1,z2,hc,hc2,go_sem];rfl
 exact⟨rfl,rfl,_,rfl,rfl⟩
theorem Kz(v:Ve)(st c:Nat)(q:Se)(m:Mv)(hz:zOk v.1 (v.2.map b0)=true)(hq:v.2[st]?=some q)(hzq:zOk q.1 (q.2.map fx)=true)(hm:q.2[c]?=some m):ab prog 158 [.agg [.sl v.1 (v.2.map b0),ii (st:Int)],ii (c:Int)] [] (.ret (ii m.2)) []:=by
 refine ab.of0 hTT func158 rfl rfl ?_;have h1:(v.2.map b0)[st]?=some (.sl q.1 (q.2.map fx)):=aw hq;have h2:(q.2.map fx)[c]?=some (.agg [ii m.1,ii m.2]):=aw hm;have l1:(st:Int)<v.2.length:=by have:=(DR.1 hq).1;omega
 have l2:(c:Int)<q.2.length:=by have:=(DR.1 hm).1;omega
 have z1:v.1≠.n:=fun e=>by rw[bd hz e]at hq;cases hq
 have z2:q.1≠.n:=fun e=>by rw[bd hzq e]at hm;cases hm
 have hc:=cc v.2;have hc2:=p3 q.2;repeat with_reducible first|refine nz aa ?_|apply ny;simp only[f158,h1,h2,l1,l2,z1,z2,hc,hc2,go_sem];rfl
 exact⟨rfl,rfl,_,rfl,rfl⟩
theorem K5(v:Ve)(st c:Nat)(q:Se)(m:Mv)(hz:zOk v.1 (v.2.map b0)=true)(hq:v.2[st]?=some q)(hzq:zOk q.1 (q.2.map fx)=true)(hm:q.2[c]?=some m):ab prog 106 [.agg [.sl v.1 (v.2.map b0),ii (st:Int)],ii (c:Int)] [] (.ret (.tuple [.agg [.sl v.1 (v.2.map b0),ii m.1],ii m.2])) []:=by
 refine ab.ofF hTT func106 rfl rfl ?_;have hl:=KV v st c q m hz hq hzq hm;have hs:=Kz v st c q m hz hq hzq hm;have hc:=cc v.2;have hb:bD 0 [PV.agg [.sl v.1 (v.2.map b0),ii (st:Int)],ii (c:Int)]=true:=ae 0 _ (by simp[ad,PV.closed,hc])
 repeat with_reducible first|refine nz aa ?_|apply ny;simp only[f106,bl,go_sem];rfl
 refine am.keep [10,9,6,5,4,2,1] (by simp only[go_sem];rfl) ?_
 have u1:IntKind.i64.wrap 1=1:=rfl;have u2:IntKind.i64.wrap 2=2:=rfl;obtain⟨SS,hSS⟩:∃SS:Int->Int->Int->St,SS=fun i a b=>⟨[(10,ii i),(9,.agg [.fn (.func 157) [] [],.fn (.func 158) [] []]),(6,.bp 2 0),(5,ii 0),(4,.bp 1 0),(2,.bp 0 0),(1,ii (c:Int))],27,[.var [.sl v.1 (v.2.map b0),ii (st:Int)] false,.var [.sl .n [],ii 0] false,.var [ii a,ii b] false]⟩:=⟨_,rfl⟩
 refine am.loop (fun i s'=>(i=0∧s'=SS 0 0 0)∨(i=1∧s'=SS 1 m.1 0)∨(i=2∧s'=SS 2 m.1 m.2)) 2 (.inl ⟨rfl,by rw[hSS]⟩) ?_
 rintro i _ hi (⟨rfl,rfl⟩|⟨rfl,rfl⟩|⟨rfl,rfl⟩)
 ·rw[hSS]
  repeat with_reducible first|refine nz (aj aa (ent func157 rfl) hl hb) ?_|apply ny;simp only[f106,eA,hc,go_sem];rfl
  refine ak.t 3 [10,9,6,5,4,2,1] (show 0<2 by decide) (by simp only[n5,go_sem]) (.inr (.inl ⟨rfl,by first|(simp only[hSS,u1,u2,go_sem];first|done|rfl)|rfl⟩))
 ·rw[hSS]
  repeat with_reducible first|refine nz (aj aa (ent func158 rfl) hs hb) ?_|apply ny;simp only[f106,eA,hc,go_sem];rfl
  refine ak.t 3 [10,9,6,5,4,2,1] (show 1<2 by decide) (by simp only[n5,go_sem]) (.inr (.inr ⟨rfl,by first|(simp only[hSS,u1,u2,go_sem];first|done|rfl)|rfl⟩))
 ·rw[hSS]
  repeat with_reducible first|refine nz aa ?_|apply ny;simp only[f106,hc,go_sem];rfl
  exact⟨rfl,rfl,_,rfl,aq (v:=.tuple [.agg [.sl v.1 (v.2.map b0),ii m.1],ii m.2]) (by simp[PV.closed,ad,hc])⟩
theorem ab.frameTup{P:Program}{f:FuncId}{args:List PV}{e:TypeId}{kk:Nat}{es:List PV}{tl:PV}(htl:tl.closed=true)(h:ab P f args [] (.ret (.tuple [.ms 0 es.length,tl])) [.row false e kk es false])(hlt:∀x∈args,Lt 0 x)(hcl:∀x∈es,Lt 0 x)
 {n:Nat} {G:Gh} {sg:List Box} {w:World} {us:Array Value} (hR:Rel G sg w) (hL:RepL G args us) {fid:Nat} (hfree:jT sg fid) :
 CallsIn Fence.wide n P f us w fun x w'=>∃G' u,x=.returned u∧Rel G' (sg.set fid (.row false e kk es false)) w'∧G.le G'∧G'.dfr=G.dfr∧Rep G' (.tuple [.ms fid es.length,tl]) u:=by
 let G0:Gh:={ w0:=w,S:=G.S,SM:=G.SM,rho:=[],dfr:=[] }
 have hR0:Rel G0 [] w:=⟨Below.refl _ w,rfl,fun id s b hs=>by simp[G0]at hs,fun i j s s' g _ hs=>by simp[G0]at hs,hR.st,hR.stM,(fun b hb=>by cases hb),hR.tab.mono hR.below⟩
 have hL0:RepL G0 args us:=⟨hL.1,fun j c u hc hu=>Rep.lower (G:=G) (G':=G0) (m:=0) (fun _ _ _ e=>e) (fun _ _ e=>e) (fun id h=>by omega) (hL.2 j c u hc hu) (hlt c (DU hc))⟩
 refine CallsIn.mono (h.2 n G0 w us hR0 hL0) fun x w' ⟨G0',hR0',hl0,hdf0,hm⟩=>?_
 cases x with
 |panicked ch=>exact hm.elim
 |outgrown=>exact hm.elim
 |returned u =>
 have hm':Rep G0' (.tuple [.ms 0 es.length,tl]) u:=hm;have hw0:G0'.w0=w:=hl0.w0;have hbel:Below w.heap.size w w':=by have:=hR0'.below;rw[hw0]at this;exact this
 obtain⟨s0,hs0,hok0⟩:=hR0'.slot (id:=0) (b:=.row false e kk es false) rfl;cases s0 with
 |dead=>exact hok0.elim
 |blk g=>exact hok0.elim
 |lp g d=>exact hok0.elim
 |row v m k =>
 obtain⟨rfl,rfl,hz,hk,h1,⟨xs,how,hLx⟩,hS⟩:=hok0;obtain⟨g,cap,cur,rfl,hB,hh,_⟩:=cG how (by intro e;rw[e]at hz;simp at hz)
 rw[hw0]at how hB;obtain⟨sd,hsd,hbd⟩:=hR.slot hfree;have hsd':sd=.dead:=by cases sd <;> simp[BoxOk]at hbd <;> rfl
 subst hsd';have hfid:fid<G.rho.length:=(DR.1 hsd).1
 let G':Gh:={ w0:=G.w0,S:=G0'.S,SM:=G0'.SM,rho:=G.rho.set fid (.row (.slice (some ⟨g,0,none⟩) es.length cap) es.length kk),dfr:=G.dfr }
 have hle:G.le G':=⟨rfl,hl0.S,hl0.SM,fun g o hg=>hl0.old g o (Fj hg hR.base_le),fun g hg=>hl0.oldM g (Fj hg hR.base_le),fun id s hs=>by
  by_cases hid:fid=id
  ·subst hid
   rw[hsd]at hs;cases hs;exact⟨_,by show(G.rho.set fid _)[fid]?=_;rw[D4 hfid],trivial⟩
  ·exact⟨s,by show(G.rho.set fid _)[id]?=_;rw[D8 hid];exact hs,s.le_refl⟩⟩
 have hRk:=hR.keep hbel;have hrow:G'.rho[fid]?=some (.row (.slice (some ⟨g,0,none⟩) es.length cap) es.length kk):=by show(G.rho.set fid _)[fid]?=_;rw[D4 hfid]
 have hcl':∀c∈flat es,Lt 0 c:=fun c hc=>by
  obtain⟨y,hy,hyc⟩:=dq.1 hc;exact jB 0 y (hcl y hy) c hyc
 refine⟨G',u,rfl,⟨hRk.below,by show(G.rho.set fid _).length=_;simp[hR.len],fun id s b hs hb=>?_,fun i j s s' gg hij hs hs' hgb hgb'=>?_,hR0'.st,hR0'.stM,hRk.dfr,hR.tab⟩,hle,rfl,?_⟩
 ·by_cases hid:fid=id
  ·subst hid
   rw[hrow]at hs;cases hs;rw[D4 (by rw[←hR.len];exact hfid)]at hb
   cases hb;refine⟨rfl,rfl,hz,hk,h1,⟨xs,kR how hR.base_le,⟨hLx.1,fun j c y hc hy=>?_⟩⟩,hS⟩
   exact Rep.lower (G:=G0') (G':=G') (m:=0) (fun _ _ _ e=>e) (fun _ _ e=>e) (fun id h=>by omega) (hLx.2 j c y hc hy) (hcl' c (DU hc))
  ·have hs':G.rho[id]?=some s:=by
    have:(G.rho.set fid _)[id]?=some s:=hs
    rw[D8 hid]at this;exact this
   rw[D8 hid]at hb;have hb0:=hR.box id s b hs' hb;exact(hRk.box id s b hs' hb).keep (DS _) (fun _ _ r=>r.mono hle) rfl (fun _ _=>rfl) (fun g hg o e=>by
    have:=hl0.old g o (hb0.blk hg).2
    show G0'.S g o=none;rw[this];exact e) (fun g hg e=>by
    have:=hl0.oldM g (hb0.blk hg).2
    show G0'.SM g=none;rw[this];exact e) (fun _ e=>e)
 ·have old:∀(id:Nat) (s:Slot),fid≠id->(G.rho.set fid (.row (.slice (some ⟨g,0,none⟩) es.length cap) es.length kk))[id]?=some s->G.rho[id]?=some s:=fun id s hid hs=>by
   rw[D8 hid]at hs;exact hs
  have new:∀(s:Slot),(G.rho.set fid (.row (.slice (some ⟨g,0,none⟩) es.length cap) es.length kk))[fid]?=some s->s.block=some g:=fun s hs=>by
   rw[D4 hfid]at hs;cases hs;rfl
  have lim:∀(id:Nat) (s:Slot) (q:Nat),G.rho[id]?=some s->s.block=some q->q<w.heap.size:=fun id s q hs hq=>by
   obtain⟨b,_,hbk⟩:=hR.slotBox hs;exact(hbk.blk hq).2
  by_cases hi:fid=i
  ·subst hi
   have e1:=new s hs;rw[hgb]at e1;cases e1;have:=lim j s' g (old j s' hij hs') hgb'
   omega
  ·by_cases hj:fid=j
   ·subst hj
    have e1:=new s' hs';rw[hgb']at e1;cases e1;have:=lim i s g (old i s hi hs) hgb
    omega
   ·exact hR.inj i j s s' gg hij (old i s hi hs) (old j s' hj hs') hgb hgb'
 ·cases hm' with
  |tuple hl hr =>
   refine .tuple hl fun j x y hx hy=>?_
   match j,hx with
   |0,hx =>
    cases hx;cases hr 0 _ y rfl hy with
    |ms hs hn ho hu =>
     rw[hs0]at hs;cases hs;exact .ms hrow (DS _) ho hu
   |1,hx =>
    cases hx;exact Rep.lower (G:=G0') (G':=G') (m:=0) (fun _ _ _ e=>e) (fun _ _ e=>e) (fun id h=>by omega) (hr 1 tl y rfl hy) (av _ htl)
   |j+2,hx=>cases hx
theorem ab.tupAt{P:Program}{f:FuncId}{args:List PV}{e:TypeId}{k:Nat}{es:List PV}{tl:PV}(htl:tl.closed=true)(h:ab P f args [] (.ret (.tuple [.ms 0 es.length,tl])) [.row false e k es false])(hlt:∀x∈args,Lt 0 x)(hcl:∀x∈es,Lt 0 x)(sg:List Box):
 ab P f args sg (.ret (.tuple [.ms sg.length es.length,tl])) (sg++[.row false e k es false]):=by
 refine⟨by simp,fun n G w us hR hL=>?_⟩
 have hR1:Rel (G.push .dead) (sg++[.dead]) w:=g9 hR;have hfree:jT (sg++[Box.dead]) sg.length:=by
  unfold jT;rw[D9 (DS _)];simp
 refine CallsIn.mono (h.frameTup htl hlt hcl hR1 (hL.push .dead) (n:=n) hfree) fun x w' ⟨G',u,hx,hR',hl,hdf,hm⟩=>?_
 subst hx;refine⟨G',?_,(Gh.le_trans (G.push_le .dead) hl).leM _,hdf,hm⟩;have:(sg++[Box.dead]).set sg.length (.row false e k es false)=sg++[.row false e k es false]:=by
  rw[Fq _ _ (DS _)];simp
 rw[this]at hR';exact hR'
theorem ab.pickT{P:Program}{f:FuncId}{args:List PV}{sg sg1:List Box}{id n:Nat}{e:TypeId}{k:Nat}{es:List PV}{tl:PV}(h:ab P f args sg (.ret (.tuple [.ms id n,tl])) sg1)(hc:tl.closed=true)(hb:sg1[id]?=some (.row false e k es false))(hm:sg.length<=id)
 (hlt:∀b∈sg1.take sg.length,b.Lt sg.length) (hes:∀c∈flat es,Pv.Lt sg.length c):ab P f args sg (.ret (.tuple [.ms sg.length n,tl])) (sg1.take sg.length++[.row false e k es false]):=by
 refine⟨by have:=h.1;simp;omega,fun q G w us hR hL=>CallsIn.mono (h.2 q G w us hR hL) fun x w' ⟨G',hR',hl,hdf,hv⟩=>?_⟩
 cases x with
 |panicked ch=>exact hv.elim
 |outgrown=>exact hv.elim
 |returned u =>
  obtain⟨G2,a1,a2,a3,a4⟩:=uw hR' hb hm hlt hes;refine⟨G2,a1,hl.trans a2 (DS _),a3.trans hdf,?_⟩;have hv:Rep G' (.tuple [.ms id n,tl]) u:=hv;cases hv with
  |tuple hl2 hr =>
   refine .tuple hl2 fun j x u hx hu=>?_
   match j,hx with
   |0,hx =>
    cases hx;exact a4 n u (hr 0 _ u rfl hu)
   |1,hx =>
    cases hx;exact(hr 1 tl u rfl hu).monoM a2 ((av _ hc).mono (Ee _))
   |j+2,hx=>cases hx
theorem FK(v:St4):∀(l:List Nat) (s c:Nat),hQ v s (l++[c])=((hQ v s l).1++[((v.getD (hQ v s l).2 []).getD c (0,0)).2],((v.getD (hQ v s l).2 []).getD c (0,0)).1.toNat)
 |[],s,c=>rfl
 |x::l,s,c=>by
  rw[EK]
  show((_::(hQ v _ (l++[c])).1,(hQ v _ (l++[c])).2):List Int×Nat)=_
  rw[FK v l _ c];rfl
theorem J9{c t:Int}{v:St4}(hv:mv c t v=true){s x:Nat}(hs:s<v.length)(hx:(x:Int)<c):∃(r:List Mv) (m:Mv),v[s]?=some r∧r[x]?=some m∧0<=m.1∧m.1<v.length:=by
 unfold mv at hv;rw[D3,D7]at hv;have h1:=hv.2 v[s] (E5 hs);unfold u3 at h1;rw[D3,D7]at h1;have h2:=Eu h1.1;have hxl:x<(v[s]).length:=by omega
 have h3:=h1.2 (v[s])[x] (E5 hxl);unfold mvB at h3;rw[D3]at h3;have h4:=bm.1 h3.1;exact⟨v[s],(v[s])[x],DT hs,DT hxl,by omega,by omega⟩
theorem Kt{c t:Int}{v:St4}(hv:mv c t v=true):∀(l:List Nat) (s:Nat),s<v.length->(∀x∈l,(x:Int)<c)->(hQ v s l).2<v.length
 |[],_,hs,_=>hs
 |x::l,s,hs,h=>by
  obtain⟨r,m,h1,h2,h3,h4⟩:=J9 hv hs (h x DV)
  show(hQ v ((v.getD s []).getD x (0,0)).1.toNat l).2<_
  refine Kt hv l _ ?_ fun y hy=>h y (DW _ hy)
  have e1:v.getD s []=r:=by rw[Ep,h1];rfl
  have e2:r.getD x (0,0)=m:=by rw[Ep,h2];rfl
  rw[e1,e2];omega
def dj(v:Ve)(l:List Int):List Int:=(hQ v.sts 0 (l.map Int.toNat)).1
theorem lz(v:Ve)(l:List Int):(dj v l).length=l.length:=by unfold dj;rw[r7,DX]
theorem Kn:∀(l:List Int),(∀x∈l,0<=x)->∃cs:List Nat,l=cs.map (fun n:Nat=>(n:Int))
 |[],_=>⟨[],rfl⟩
 |x::l,h=>by
  obtain⟨cs,e⟩:=Kn l fun y hy=>h y (DW _ hy)
  have:=h x DV
  exact⟨x.toNat::cs,by rw[EE,←e,Int.toNat_of_nonneg this]⟩
theorem zT(v:Ve)(z:Z)(cs:List Nat)(c t:Int)(hz:zOk v.1 (v.2.map b0)=true)(hzq:∀q∈v.2,zOk q.1 (q.2.map fx)=true)(hzl:z=.n->cs=[])(hv:mv c t v.sts=true)(hl:∀x∈cs,(x:Int)<c)(hn:cs.length<=1000):
 am prog (match f56.body with|some c=>c|none=>.skip) ⟨ik 0 [d6 v,.sl z ((cs.map fun n:Nat=>(n:Int)).map ii)],34,[]⟩ (fun o st'=>o.ends=true∧si TT st' f56.results=some (.tuple [.ms 3 cs.length,.agg [.sl v.1 (v.2.map b0),ii ((hQ v.sts 0 cs).2:Int)]])∧st'.sg=[.var [.sl v.1 (v.2.map b0)] false,.var [.sl v.1 (v.2.map b0),ii ((hQ v.sts 0 cs).2:Int)] false,.var [.sl v.1 (v.2.map b0),ii ((hQ v.sts 0 cs).2:Int)] false,.row (decide (cs.length=0)) 3 1 ((hQ v.sts 0 cs).1.map ii) false]):=by
 show am prog (Code.seq _ _) _ _;have hev:d6 v=.agg [.sl v.1 (v.2.map b0)]:=rfl;rw[hev];have hc:=cc v.2;have hvl:0<v.sts.length:=by
  unfold mv at hv;rw[D3]at hv;have:=bm.1 hv.1
  omega
 repeat with_reducible first|refine nz aa ?_|apply ny;simp only[f56,hc,go_sem];rfl
 have e0:hQ v.sts 0 []=([],0):=rfl;refine am.keep [16,15,14,7,6,5] (by simp only[go_sem];rfl) ?_
 refine am.nilRow 7 3 1 (by simp only[go_sem]) (by simp only[go_sem];rfl) (by simp only[go_sem];rfl) ?_
 refine am.loop (fun i s'=>s'=⟨[(16,ii (i:Nat)),(15,ii (cs.length:Nat)),(14,.sl z ((cs.map fun n:Nat=>(n:Int)).map ii)),(7,.ms 3 i),(6,.bp 2 0),(5,.bp 1 0)],34,[.var [.sl v.1 (v.2.map b0)] false,.var [.sl .n [],ii 0] false,.var [.sl v.1 (v.2.map b0),ii ((hQ v.sts 0 (cs.take i)).2:Int)] false,.row (decide (i=0)) 3 1 ((hQ v.sts 0 (cs.take i)).1.map ii) false]⟩) cs.length (by first|(simp only[e0,go_sem];first|done|rfl)|rfl) ?_
 rintro i _ hi rfl;by_cases hlt:i<cs.length
 ·obtain⟨x,hx⟩:=gex hlt
  have hx':((cs.map fun n:Nat=>(n:Int)).map ii)[i]?=some (ii (x:Int)):=aw (aw hx)
  have hlt':(i:Int)<cs.length:=by omega
  have hz':z≠.n:=fun e=>by rw[hzl e]at hlt;simp at hlt
  have e4:=wIs i (by omega)
  have hs:=Kt hv (cs.take i) 0 hvl fun y hy=>hl y (Ey hy)
  obtain⟨r,m,g1,g2,g3,g4⟩:=J9 hv hs (hl x (DU hx));obtain⟨q,hq,rfl⟩:∃q,v.2[(hQ v.sts 0 (cs.take i)).2]?=some q∧q.2=r:=by
   unfold Ve.sts at g1;rw[Eh]at g1;cases h:v.2[(hQ v.sts 0 (cs.take i)).2]? with
   |none=>unfold Ve.sts at h;rw[h]at g1;cases g1
   |some q=>unfold Ve.sts at h;rw[h]at g1;cases g1;exact⟨q,rfl,rfl⟩
  have hcall:=K5 v _ x q m hz hq (hzq q (DU hq)) g2;have hb:bD 0 [PV.agg [.sl v.1 (v.2.map b0),ii ((hQ v.sts 0 (cs.take i)).2:Int)],ii (x:Int)]=true:=ae 0 _ (by simp[ad,PV.closed,hc])
  have hst:cs.take (i+1)=cs.take i++[x]:=by rw[Ev,hx];rfl
  have hsn:=FK v.sts (cs.take i) 0 x;have e1:v.sts.getD (hQ v.sts 0 (cs.take i)).2 []=q.2:=by rw[Ep,g1];rfl
  have e2:q.2.getD x (0,0)=m:=by rw[Ep,g2];rfl
  rw[←hst,e1,e2]at hsn;have hrl:(hQ v.sts 0 (cs.take i)).1.length=i:=by rw[r7,En];omega
  have q1:(i+1)*8<=140737488355328:=by omega
  have q2:i+1<=maxLen:=by unfold maxLen;omega
  have hd1:decide (i+1=0)=false:=by simp
  have hm:((m.1.toNat:Nat):Int)=m.1:=Int.toNat_of_nonneg g3;generalize hQ v.sts 0 (cs.take i)=A at hsn hrl hcall hb hs ⊢;repeat with_reducible first|refine nz (aj aa (ent func106 rfl) hcall hb) ?_|apply ny;simp only[f56,eA,hx',hlt',hz',hrl,e4,q1,q2,hc,go_sem];rfl
  refine ak.t 4 [16,15,14,7,6,5] hlt (by simp only[aF,n5,bJ,go_sem]) (by rw[hsn,hd1];simp only[Ec,hm,go_sem])
 ·have hlt':¬(i:Int)<cs.length:=by omega
  obtain rfl:i=cs.length:=by omega
  have e:cs.take cs.length=cs:=EQ (DS _);rw[e];repeat with_reducible first|refine nz aa ?_|apply ny;simp only[f56,hlt',hc,go_sem];rfl
  exact⟨rfl,rfl,rfl⟩
def plrL(v:Ve)(l:List Int):PV:=.agg [.sl v.1 (v.2.map b0),ii ((hQ v.sts 0 (l.map Int.toNat)).2:Int)]
theorem KL(v:Ve)(l:List Int):(plrL v l).closed=true:=by simp[plrL,PV.closed,ad,cc]
theorem Ke(cs:List Nat):(cs.map fun n:Nat=>(n:Int)).map Int.toNat=cs:=by rw[Fb];exact List.map_id _
def emZ(l:List Int):Z:=if l=[]then .n else .a
theorem zx(v:Ve)(z:Z)(l:List Int)(c t:Int)(hz:zOk v.1 (v.2.map b0)=true)(hzq:∀q∈v.2,zOk q.1 (q.2.map fx)=true)(hzl:z=.n->l=[])(hv:mv c t v.sts=true)(hl:∀x∈l,0<=x∧x<c)(hn:l.length<=1000):
 ab prog 56 [d6 v,.sl z (l.map ii)] [] (.ret (.tuple [.sl (emZ l) ((dj v l).map ii),plrL v l])) []:=by
 obtain⟨cs,rfl⟩:=Kn l fun x hx=>(hl x hx).1
 unfold dj plrL;rw[Ke];refine ab.ofF hTT func56 rfl rfl ?_;obtain⟨o,st',hr,h1,h2,h3⟩:=zT v z cs c t hz hzq (fun e=>by simpa using hzl e) hv (fun x hx=>(hl x (List.mem_map_of_mem hx)).2) (by simpa using hn)
 refine⟨o,st',hr,h1,by rw[h3];rfl,_,h2,?_⟩
 rw[h3,oG (id:=3) rfl (ac _) (by rw[DX,r7]) (by simp[PV.closed,ad,cc])]
 unfold emZ;cases cs <;> rfl
theorem KC(v:Ve)(z:Z)(l:List Int)(c t:Int)(hz:zOk v.1 (v.2.map b0)=true)(hzq:∀q∈v.2,zOk q.1 (q.2.map fx)=true)(hzl:z=.n->l=[])(hv:mv c t v.sts=true)(hl:∀x∈l,0<=x∧x<c)(hn:l.length<=1000)(h0:l≠[])(sg:List Box):
 ab prog 56 [d6 v,.sl z (l.map ii)] sg (.ret (.tuple [.ms sg.length l.length,plrL v l])) (sg++[.row false 3 1 ((dj v l).map ii) false]):=by
 have hlen:((dj v l).map ii).length=l.length:=by rw[DX,lz]
 have key:ab prog 56 [d6 v,.sl z (l.map ii)] [] (.ret (.tuple [.ms 0 l.length,plrL v l])) [.row false 3 1 ((dj v l).map ii) false]:=by
  obtain⟨cs,rfl⟩:=Kn l fun x hx=>(hl x hx).1
  unfold dj plrL;rw[Ke];obtain⟨o,st',hr,h1,h2,h3⟩:=zT v z cs c t hz hzq (fun e=>by simpa using hzl e) hv (fun x hx=>(hl x (List.mem_map_of_mem hx)).2) (by simpa using hn)
  have hd:decide (cs.length=0)=false:=Ei fun e=>h0 (by rw[Ew.1 e];rfl)
  rw[hd]at h3;have hb:=ab.body hTT (args:=[d6 v,.sl z ((cs.map fun n:Nat=>(n:Int)).map ii)]) func56 (c:=match f56.body with|some c=>c|none=>.skip) rfl rfl hr h1 h2 (by rw[h3];exact aD _ _ rfl)
  rw[h3]at hb;have:=hb.pickT (id:=3) (by simp[PV.closed,ad,cc]) rfl (Ee _) (by simp) (fun x hx=>by
   obtain⟨y,hy,hyc⟩:=dq.1 hx;exact jB 0 y (aB _ (ac _) y hy) x hyc)
  rw[DX];exact this
 rw[←hlen];rw[←hlen]at key;exact key.tupAt (KL v l) (fun x hx=>by
  simp only[D6,Eb,EM]at hx;rcases hx with rfl|rfl
  ·exact av _ (zc v)
  ·exact av _ (ac l)) (aB _ (ac _)) sg
theorem noted_nn:ab prog 207 [.sl .n [],.sl .n []] [] (.ret (.bool true)) []:=(dC hTT cP mixed named dw (k:=60) (by kernel_rfl)).2.1
theorem KX{g:FuncId}{cs:List PV}{S:List Box}(hS:OwnOk 0 S)(hc:bD S.length cs=true):ab prog 204 [.sl .n [],.fn (.func g) [] cs] S (.ret (ii (-1))) S:=by
 have hS':∀b∈S,b.Lt S.length:=fun b hb=>by have:=hS b hb;simpa using this
 refine ab.ofB hTT func204 rfl rfl ?_ rfl hS' (DO _ _ _|>.2 trivial);repeat with_reducible first|refine nz aa ?_|apply ny;simp only[f204,go_sem];rfl
 refine am.keep [8,7,6,4,0,1] (by simp only[go_sem];rfl) ?_
 refine am.loop (fun i s'=>s'=⟨[(8,ii 0),(7,ii 0),(6,.sl .n []),(4,ii 0),(0,.sl .n []),(1,.fn (.func g) [] cs)],19,S⟩) 0 (by first|(simp only[go_sem];first|done|rfl)|rfl) ?_
 rintro i _ hi rfl;repeat with_reducible first|refine nz aa ?_|apply ny;simp only[f204,go_sem];rfl
 exact⟨rfl,SameLoops.refl _,rfl,[],by simp⟩
theorem Kf{g:FuncId}{cs:List PV}{S:List Box}(hS:OwnOk 0 S)(hc:bD S.length cs=true):ab prog 159 [.sl .n [],.fn (.func g) [] cs] S (.ret (.bool false)) S:=by
 have hS':∀b∈S,b.Lt S.length:=fun b hb=>by have:=hS b hb;simpa using this
 refine ab.ofB hTT func159 rfl rfl ?_ rfl hS' (th _ _|>.2 trivial);have hidx:=KX (g:=g) hS hc;repeat with_reducible first|refine nz (ar aa (ent func204 rfl) hidx (SameLoops.refl _)) ?_|apply ny;simp only[f159,cp,go_sem];rfl
 exact⟨rfl,SameLoops.refl _,rfl,[],by simp⟩
theorem ownBk(b:Bk):OwnOk 0 [Box.var b.cells false]:=fun x hx=>by
 simp only[D6,Eb,EM]at hx;subst hx;exact Ho (oC b)
theorem KB(b:Bk):ab prog 107 [.agg b.cells,.sl .n []] [] (.ret (.bool true)) []:=by
 refine ab.of0 hTT func107 rfl rfl ?_;have hcall:=Kf (g:=160) (cs:=[.bp 0 0]) (ownBk b) rfl;repeat with_reducible first|refine nz (ar aa (ent func159 rfl) hcall (SameLoops.refl _)) ?_|apply ny;simp only[f107,cp,bl,go_sem];rfl
 exact⟨rfl,rfl,_,rfl,rfl⟩
theorem Kc(b:Bk):ab prog 161 [.agg b.cells,.sl .n []] [] (.ret (.bool true)) []:=by
 refine ab.of0 hTT func161 rfl rfl ?_;have hcall:=CK (g:=205) (cs:=[.bp 0 0]) .n [] (fun _=>false) (ent func205 rfl) (ownBk b) rfl (fun _=>rfl) (by simp) fun n hn=>by cases hn
 have hcall:ab prog 77 [.sl .n [],.fn (.func 205) [] [.bp 0 0]] [Box.var b.cells false] (.ret (.bool false)) [Box.var b.cells false]:=hcall;repeat with_reducible first|refine nz (ar aa (ent func77 rfl) hcall (SameLoops.refl _)) ?_|apply ny;simp only[f161,cp,bl,go_sem];rfl
 exact⟨rfl,rfl,_,rfl,rfl⟩
theorem Lb(b:Bk)(hc:-1000<=b.cues∧b.cues<=1000):ab prog 108 [.agg b.cells,.agg [.sl .n [],.sl .n []]] [] (.ret (.bool true)) []:=by
 refine ab.of0 hTT func108 rfl rfl ?_;have h1:ab prog 55 [.agg b.cells,.sl .n []] [] (.ret (.bool true)) []:=sm b .n [] rfl hc;have hb:bD 0 [PV.agg b.cells,.sl .n []]=true:=ae 0 _ (by simp[ad,PV.closed,bh])
 repeat with_reducible first|refine nz (aj (aj aa (ent func161 rfl) (Kc b) hb) (ent func55 rfl) h1 hb) ?_|apply ny;simp only[f108,eA,go_sem];rfl
 exact⟨rfl,rfl,_,rfl,rfl⟩
end Go.Pv
