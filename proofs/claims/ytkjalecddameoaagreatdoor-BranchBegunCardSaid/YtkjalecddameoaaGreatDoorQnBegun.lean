import Derived.Test.YtkjalecddameoaaGreatDoorQmEve
import Derived.Test.YtkjalecddameoaaGreatDoorQmFits
import Derived.Test.YtkjalecddameoaaGreatDoorQmBgs
import Derived.Test.YtkjalecddameoaaGreatDoorQjPlays
set_option linter.all false
namespace Go.Pv
open Go Go.RowKit Go.Proofs
set_option maxRecDepth 200000
set_option maxHeartbeats 8000000
theorem CP{m:Int}:∀{c:List Nat} {p:Int},(∀x∈c,p<(x:Int)∧(x:Int)<m)->c.Pairwise (·<·)->CV m p (bH c)=true
 |[],_,_,_=>rfl
 |x::c,p,h,hr=>by
  have hx:=h x List.mem_cons_self;have hp:=List.pairwise_cons.1 hr
  show(inB (x:Int) 0 (m-1)&&decide (p<(x:Int))&&CV m (x:Int) (bH c))=true
  rw[CP (fun y hy=>⟨by have:=hp.1 y hy;omega,(h y (List.mem_cons_of_mem _ hy)).2⟩) hp.2,decide_eq_true hx.1,bm.2 ⟨by omega,by omega⟩]
  rfl
theorem CZ(c:List Nat):(bH c).map Int.toNat=c:=by
 unfold bH;rw[List.map_map];refine(List.map_congr_left (g:=id) fun x _=>Int.toNat_natCast x).trans (List.map_id c)
theorem choI_of{l:List Sn}{c:List Nat}(h:IsCho l c):choI l (bH c)=true:=by
 unfold choI;rw[CP (fun x hx=>⟨by omega,by have:=h.lt x hx;omega⟩) h.rise,CZ,h.all];rfl
theorem fits_own{n:Nt}{l:List Sn}{c:List Nat}{C:List (List Nat)}(hp:du n l=true)(hc:qf n l=c::C):C5 n l (bH c) (re n c l c)=.tuple [.bool true,ii 0]:=by
 have hm:=CW.1 (show c∈qf n l by rw[hc];exact List.mem_cons_self)
 have hP:=xn hp;have hn:=CR hm.1.rise;have hf:=Dk hP.win hn (r:=c) hP.fit hn (fun i hi=>⟨hi,hm.1.lt i hi⟩) hm.2
 have hl:(re n c l c).length=(bH c).length:=by unfold bH;rw[BU,List.length_map]
 unfold C5;rw[hp,choI_of hm.1,decide_eq_true hl,CZ,hf.1,hf.2];rfl
theorem DC{s:Sty}(hst:s.story=true){p:List Int}(hp:p∈aX s.e s.sc s.rl):Do s.sc.length p 0=true∧∃m:Nat,1<=m∧Du s p=.tuple [ii (m:Nat),ii 0]:=by
 have hO:=Sty.story_ok hst;have hf:=hO.plays_fine p hp;have ha:Do s.sc.length p 0=true:=by
  unfold Do;rw[decide_eq_true hf.2.1,Bool.true_and,List.all_eq_true];exact fun x hx=>bm.2 (by have:=hf.2.2 x hx;omega)
 refine⟨ha,(ofB (fU s.e s.sc s.rl) p).length,?_,?_⟩
 ·have:=((Sty.story_ok hst).play_of (p:=p)).1 hp
  cases h:ofB (fU s.e s.sc s.rl) p with
  |nil=>exact absurd h this
  |cons d l=>simp
 ·unfold Du;rw[hst,ha];rfl
def CS:aG:=aE (aE (aE (aE (aE (aE (aE (aE C9 62 c62) 72 c72) 46 c46) 63 c63) 65 c65) 66 c66) 71 c71) 76 c76
theorem be(hk:al Tryz.prog 21 c21):au Tryz.prog CS:=ah (ah (ah (ah (ah (ah (ah (ah (cfLc_ok hk) c62_ok) c72_ok) c46_ok) c63_ok) c65_ok) Dz) c71_ok) Bo
theorem DF(hk:al Tryz.prog 21 c21)(s:Sty)(hok:s.ok=true)(n:Nt)(b:Int):ab Tryz.prog 18 [.agg s.cells,.agg (ntC n),ii b] [] (.ret (.bool true)) []:=by
 refine ab.of0 hTT Tryz.func18 rfl rfl ?_;have hd:=aS s hok;have hda:∀x,gJ (.agg [ii x,ii n.w0.1,ii n.w0.2,ii n.w1.1,ii n.w1.2,ii n.w2.1,ii n.w2.2])=some (n.at x):=fun x=>fF (n.at x)
 have hdn:gJ (.agg (ntC n))=some n:=fF n;have h1:=ap s.sc;have h2:=ao s.rz;have hgt:∀a b:Int,(a>b)=(b<a):=fun _ _=>rfl
 cases h0:ub s
 ·repeat with_reducible first|apply nx|apply wQ rfl|(first|apply wV|apply wW|apply wX|apply wy (be hk);kernel_rfl);simp only[Tryz.f18,CS,C9,C7,C8,c19,c21,hd,h0,h1,h2,go_sem];rfl|refine wz (be hk) ?_|refine wa ⟨by kernel_rfl,?_⟩
  exact⟨rfl,rfl,_,rfl,rfl⟩
 cases hst:s.story
 ·repeat with_reducible first|apply nx|apply wQ rfl|(first|apply wV|apply wW|apply wX|apply wy (be hk);kernel_rfl);simp only[Tryz.f18,CS,C9,C7,C8,c19,c20,c21,hd,h0,hst,h1,h2,go_sem];rfl|refine wz (be hk) ?_|refine wa ⟨by kernel_rfl,?_⟩
  exact⟨rfl,rfl,_,rfl,rfl⟩
 cases he:evB n
 ·repeat with_reducible first|apply nx|apply wQ rfl|(first|apply wV|apply wW|apply wX|apply wy (be hk);kernel_rfl);simp only[Tryz.f18,CS,C9,C7,C8,c19,c20,c21,c46,hd,hdn,h0,hst,he,h1,h2,go_sem];rfl|refine wz (be hk) ?_|refine wa ⟨by kernel_rfl,?_⟩
  exact⟨rfl,rfl,_,rfl,rfl⟩
 by_cases hb0:b<0
 ·repeat with_reducible first|apply nx|apply wQ rfl|(first|apply wV|apply wW|apply wX|apply wy (be hk);kernel_rfl);simp only[Tryz.f18,CS,C9,C7,C8,c19,c20,c21,c46,hd,hdn,h0,hst,he,hb0,hgt,h1,h2,go_sem];rfl|refine wz (be hk) ?_|refine wa ⟨by kernel_rfl,?_⟩
  exact⟨rfl,rfl,_,rfl,rfl⟩
 by_cases hb9:900<b
 ·repeat with_reducible first|apply nx|apply wQ rfl|(first|apply wV|apply wW|apply wX|apply wy (be hk);kernel_rfl);simp only[Tryz.f18,CS,C9,C7,C8,c19,c20,c21,c46,hd,hdn,h0,hst,he,hb0,hb9,hgt,h1,h2,go_sem];rfl|refine wz (be hk) ?_|refine wa ⟨by kernel_rfl,?_⟩
  exact⟨rfl,rfl,_,rfl,rfl⟩
 have hb:0<=b∧b<=900:=by omega
 have hO:=Sty.story_ok hst;have hse:(s.story&&evB n)=true:=by rw[hst,he];rfl
 have hw:=ev_win he;have hsn:=hO.sn;have hnb:=ev_b he;have n00:((0:Int) != 0)=false:=rfl;have n55:((5:Int) != 5)=false:=rfl;have n50:((5:Int) != 0)=true:=rfl;have n05:((0:Int) != 5)=true:=rfl;have e50:((5:Int)==0)=false:=rfl;have e00:((0:Int)==0)=true:=rfl;have z1:¬(0:Int)<0:=by omega
 have z2:¬(900:Int)<0:=by omega
 have hB0:begS s n=match Bg n s.sc (aX s.e s.sc s.rl)with
  |none=>PV.tuple [.agg [ii 0,ii 0],ii 5]
  |some x=>.tuple [.agg [ii x.1,ii x.2],ii 0]:=by unfold begS;rw[hse,if_pos rfl];cases Bg n s.sc (aX s.e s.sc s.rl) <;> rfl
 have hfE:=CJ (n:=n) hok hst he;have hfG:=CJ (n:=n.at b) hok hst (ev_at he hb);cases hB:Bg n s.sc (aX s.e s.sc s.rl)with
 |none =>
  rw[hB]at hB0;have hB0:begS s n=.tuple [.agg [ii 0,ii 0],ii 5]:=hB0;have q1:=C4 hw hsn hB hnb;rw[De]at q1;have q2:=C4 hw hsn hB hb;rcases hfE with ⟨_,hE⟩|⟨p,r,c,C,hF,_⟩
  case inr=>rw[q1]at hF;cases hF
  rcases hfG with ⟨_,hG⟩|⟨p,r,c,C,hF,_⟩
  case inr=>rw[q2]at hF;cases hF
  repeat with_reducible first|apply nx|apply wQ rfl|(first|apply wV|apply wW|apply wX|apply wy (be hk);kernel_rfl);simp only[Tryz.f18,CS,C9,C7,C8,c19,c20,c21,c46,c62,c72,hd,hdn,hda,h0,hst,he,hb0,hb9,hgt,hE,hG,hB0,n00,n55,n50,e50,z1,z2,h1,h2,go_sem];rfl|refine wz (be hk) ?_|refine wa ⟨by kernel_rfl,?_⟩
  exact⟨rfl,rfl,_,rfl,rfl⟩
 |some x =>
  obtain⟨lo,hi⟩:=x;rw[hB]at hB0;have hB0:begS s n=.tuple [.agg [ii lo,ii hi],ii 0]:=hB0;obtain⟨k1,k2,k3,k4,k5,k6⟩:=Dx hw hsn hB;have g1:¬lo<0:=by omega
  have g2:¬900<hi:=by omega
  have g3:¬hi<lo:=by omega
  have ends:∀x,0<=x∧x<=900->jf (n.at x) s.sc (aX s.e s.sc s.rl)≠[]->∃X Y W,BO s (n.at x)=.tuple [X,Y,W,ii 0]∧X.closed=true∧Y.closed=true∧W.closed=true:=fun x hx hf=>by
   rcases CJ (n:=n.at x) hok hst (ev_at he hx)with ⟨hF,_⟩|⟨p,r,c,C,_,_,_,_,_,hE⟩
   ·exact absurd hF hf
   ·exact⟨_,_,_,hE,ac p,aO c,ac _⟩
  obtain⟨X1,Y1,W1,v1,u1,u2,u3⟩:=ends lo k1 k4;obtain⟨X2,Y2,W2,v2,u4,u5,u6⟩:=ends hi k2 k5;clear ends;rcases hfE with ⟨_,hE⟩|⟨p,r,c,C,hF,hvd,hv4,hpm,hcan,hE⟩
  ·rcases hfG with ⟨_,hG⟩|⟨p',r',c',C',hF',_,_,_,_,hG⟩
   ·repeat with_reducible first|apply nx|apply wQ rfl|(first|apply wV|apply wW|apply wX|apply wy (be hk);kernel_rfl);simp only[Tryz.f18,CS,C9,C7,C8,c19,c20,c21,c46,c62,c72,hd,hdn,hda,h0,hst,he,hb0,hb9,hgt,hE,hG,hB0,n00,n55,n50,n05,e50,e00,g1,g2,g3,n50,h1,h2,go_sem];rfl|refine wz (be hk) ?_|refine wa ⟨by kernel_rfl,?_⟩
    refine am.keep [18,13,11,10,9,8,7,4,3] (by simp only[go_sem];rfl) ?_
    refine am.loop (fun i s'=>∃x,s'=⟨[(18,ii (i:Int)),(13,.bp 3 0),(11,.bp 2 0),(10,ii 5),(9,.sl .n []),(8,.sl .n []),(7,.sl .n []),(4,.bp 1 0),(3,.bp 0 0)],250,[.var s.cells false,.var (ntC n) false,.var [ii lo,ii hi] false,.var [ii x,ii n.w0.1,ii n.w0.2,ii n.w1.1,ii n.w1.2,ii n.w2.1,ii n.w2.2] false]⟩) 2 ⟨b,by first|(simp only[go_sem];done)|(simp only[go_sem];rfl)|rfl⟩ ?_
    rintro i _ hi2 ⟨x,rfl⟩;by_cases hlt:i<2
    ·have hlt':(i:Int)<2:=by omega
     have e4:IntKind.i64.wrap ((i:Int)+1)=((i+1:Nat):Int):=ai (by omega) (by omega)
     by_cases hi0:i=0
     ·have e1:((i:Int)==1)=false:=by rw[beq_eq_false_iff_ne];omega
      repeat with_reducible first|apply nx|apply wQ rfl|(first|apply wV|apply wW|apply wX|apply wy (be hk);kernel_rfl);simp only[Tryz.f18,CS,c62,hd,hda,hlt',e1,e4,v1,u1,u2,u3,n00,h1,h2,go_sem];rfl|refine wz (be hk) ?_|refine wa ⟨by kernel_rfl,?_⟩
      refine ak.t 4 [18,13,11,10,9,8,7,4,3] hlt (by simp only[aA,aF,an,az,cb,go_sem]) ⟨lo,by first|(simp only[go_sem];done)|(simp only[go_sem];rfl)|rfl⟩
     ·have e1:((i:Int)==1)=true:=by rw[beq_iff_eq];omega
      repeat with_reducible first|apply nx|apply wQ rfl|(first|apply wV|apply wW|apply wX|apply wy (be hk);kernel_rfl);simp only[Tryz.f18,CS,c62,hd,hda,hlt',e1,e4,v2,u4,u5,u6,n00,h1,h2,go_sem];rfl|refine wz (be hk) ?_|refine wa ⟨by kernel_rfl,?_⟩
      refine ak.t 4 [18,13,11,10,9,8,7,4,3] hlt (by simp only[aA,aF,an,az,cb,go_sem]) ⟨hi,by first|(simp only[go_sem];done)|(simp only[go_sem];rfl)|rfl⟩
    ·have hlt':¬(i:Int)<2:=by omega
     repeat with_reducible first|apply nx|apply wQ rfl|(first|apply wV|apply wW|apply wX|apply wy (be hk);kernel_rfl);simp only[Tryz.f18,CS,C9,C7,C8,c21,hlt',n50,go_sem];rfl|refine wz (be hk) ?_|refine wa ⟨by kernel_rfl,?_⟩
     exact⟨rfl,rfl,_,rfl,rfl⟩
   ·have hw6:=k6 b hb (by rw[hF'];simp)
    have g4:¬b<lo:=by omega
    have g5:¬hi<b:=by omega
    have x1:(slx p').closed=true:=ac p';have x2:(slC c').closed=true:=aO c';have x3:=ac (re (n.at b) c' (scn s.sc p') c');generalize slx p'=PX at hG x1;generalize slC c'=PC at hG x2;generalize re (n.at b) c' (scn s.sc p') c'=PL at hG x3;repeat with_reducible first|apply nx|apply wQ rfl|(first|apply wV|apply wW|apply wX|apply wy (be hk);kernel_rfl);simp only[Tryz.f18,CS,C9,C7,C8,c19,c20,c21,c46,c62,c72,hd,hdn,hda,h0,hst,he,hb0,hb9,hgt,hE,hG,hB0,n00,n55,n50,n05,e50,e00,g1,g2,g3,g4,g5,x1,x2,x3,h1,h2,go_sem];rfl|refine wz (be hk) ?_|refine wa ⟨by kernel_rfl,?_⟩
    refine am.keep [18,13,11,10,9,8,7,4,3] (by simp only[go_sem];rfl) ?_
    refine am.loop (fun i s'=>∃x,s'=⟨[(18,ii (i:Int)),(13,.bp 3 0),(11,.bp 2 0),(10,ii 5),(9,.sl .n []),(8,.sl .n []),(7,.sl .n []),(4,.bp 1 0),(3,.bp 0 0)],250,[.var s.cells false,.var (ntC n) false,.var [ii lo,ii hi] false,.var [ii x,ii n.w0.1,ii n.w0.2,ii n.w1.1,ii n.w1.2,ii n.w2.1,ii n.w2.2] false]⟩) 2 ⟨b,by first|(simp only[go_sem];done)|(simp only[go_sem];rfl)|rfl⟩ ?_
    rintro i _ hi2 ⟨x,rfl⟩;by_cases hlt:i<2
    ·have hlt':(i:Int)<2:=by omega
     have e4:IntKind.i64.wrap ((i:Int)+1)=((i+1:Nat):Int):=ai (by omega) (by omega)
     by_cases hi0:i=0
     ·have e1:((i:Int)==1)=false:=by rw[beq_eq_false_iff_ne];omega
      repeat with_reducible first|apply nx|apply wQ rfl|(first|apply wV|apply wW|apply wX|apply wy (be hk);kernel_rfl);simp only[Tryz.f18,CS,c62,hd,hda,hlt',e1,e4,v1,u1,u2,u3,n00,h1,h2,go_sem];rfl|refine wz (be hk) ?_|refine wa ⟨by kernel_rfl,?_⟩
      refine ak.t 4 [18,13,11,10,9,8,7,4,3] hlt (by simp only[aA,aF,an,az,cb,go_sem]) ⟨lo,by first|(simp only[go_sem];done)|(simp only[go_sem];rfl)|rfl⟩
     ·have e1:((i:Int)==1)=true:=by rw[beq_iff_eq];omega
      repeat with_reducible first|apply nx|apply wQ rfl|(first|apply wV|apply wW|apply wX|apply wy (be hk);kernel_rfl);simp only[Tryz.f18,CS,c62,hd,hda,hlt',e1,e4,v2,u4,u5,u6,n00,h1,h2,go_sem];rfl|refine wz (be hk) ?_|refine wa ⟨by kernel_rfl,?_⟩
      refine ak.t 4 [18,13,11,10,9,8,7,4,3] hlt (by simp only[aA,aF,an,az,cb,go_sem]) ⟨hi,by first|(simp only[go_sem];done)|(simp only[go_sem];rfl)|rfl⟩
    ·have hlt':¬(i:Int)<2:=by omega
     repeat with_reducible first|apply nx|apply wQ rfl|(first|apply wV|apply wW|apply wX|apply wy (be hk);kernel_rfl);simp only[Tryz.f18,CS,C9,C7,C8,c21,hlt',n50,go_sem];rfl|refine wz (be hk) ?_|refine wa ⟨by kernel_rfl,?_⟩
     exact⟨rfl,rfl,_,rfl,rfl⟩
  ·have hw5:=k6 n.b hnb (by rw[De,hF];simp)
   have g6:¬n.b<lo:=by omega
   have g7:¬hi<n.b:=by omega
   have hcp:=ac p;have hsx:slx p=.sl .a (p.map ii):=rfl;have hdp1:aN (.sl .a (p.map ii))=some p:=aI rfl;have hpd:=pd_to hvd;have hp5:p.length<=100000:=by have:=hvd.p2;omega
   have hform:=(Br.1 hv4).1;obtain⟨ha,m,hm,hwy⟩:=DC hst hpm;have hm1:¬((m:Nat):Int)<1:=by omega
   have hln0:s.sc.length<=1000:=hvd.sl;have hdp:=kr n (scn s.sc p);have hpV:pM n (scn s.sc p)=.agg (plC n (if decide ((scn s.sc p).length=0)=true then .n else .a) (scn s.sc p)):=rfl;rw[hpV]at hdp;have hcc:=ay (scn s.sc p);generalize (if decide ((scn s.sc p).length=0)=true then Z.n else Z.a)=zL at hdp hpV;have hpl:du n ((scn s.sc p).map nof)=true:=by rw[oN,hvd.plan];exact(Br.1 hv4).2.1
   have hcn:qf n ((scn s.sc p).map nof)=c::C:=by rw[Bk,hcan]
   have hfits:=fits_own hpl hcn;rw[Bj]at hfits;have hcho:IsCho ((scn s.sc p).map nof) c:=(CW.1 (by rw[hcn];exact List.mem_cons_self)).1
   have hci:((scn s.sc p).map nof).length<=1000:=by have:=(xn hpl).l10;omega
   have hci2:(scn s.sc p).length<=1000:=by rw[List.length_map]at hci;exact hci
   have hcl3:c.length<=1000:=by
    have h1:=jG (n:=((scn s.sc p).map nof).length) (i:=0) hcho.rise fun x hx=>⟨Nat.zero_le _,hcho.lt x hx⟩
    omega
   obtain⟨c2,C2,hcan2,hprog⟩:=BR hvd hv4;have hcc2:c2=c:=by rw[hcan]at hcan2;cases hcan2;rfl
   subst hcc2;rw[←Dg]at hprog;have hsC:slC c2=.sl (if c2=[]then .f else .a) (nn c2):=rfl;have hdc1:aN (.sl (if c2=[]then .f else .a) (nn c2))=some (bH c2):=by rw[intsN_nn];exact aI (zOkI fun e=>by split at e <;> cases e)
   have hcnn:=aO c2;have hil0:(bH c2).length<=1000:=by unfold bH;rw[List.length_map];exact hcl3
   have hil:(bH c2).length<=maxLen:=by unfold maxLen;omega
   have hie:decide (bH c2=bH c2)=true:=decide_eq_true rfl;generalize hLL:re n c2 (scn s.sc p) c2=LL at hE hfits hprog;have hLl:LL.length=c2.length:=by rw[←hLL];exact BU n c2 c2 (scn s.sc p)
   have hdl:aN (.sl (Bb c2) (LL.map ii))=some LL:=aI (zOkI fun e=>by
    unfold Bb at e;split at e
    ·rename_i h;exact List.length_eq_zero_iff.1 (by rw[hLl];exact of_decide_eq_true h)
    ·cases e)
   have hcLL:=ac LL;have hLl0:LL.length<=1000:=by omega
   have hLm:LL.length<=maxLen:=by unfold maxLen;omega
   have hLe:decide (LL=LL)=true:=decide_eq_true rfl;rw[hsC]at hE hprog;rw[hsx]at hE;generalize (if c2=[]then Z.f else Z.a)=y1 at hE hprog hdc1;generalize Bb c2=y3 at hE hprog hdl;clear hLL hcan hvd hcho hcn hcan2;rcases hfG with ⟨_,hG⟩|⟨p',r',c',C',hF',_,_,_,_,hG⟩
   ·repeat with_reducible first|apply nx|apply wQ rfl|(first|apply wV|apply wW|apply wX|apply wy (be hk);kernel_rfl);simp only[Tryz.f18,CS,C9,C7,C8,c19,c20,c21,c46,c62,c72,hd,hdn,hda,h0,hst,he,hb0,hb9,hgt,hE,hG,hB0,n00,n55,n50,n05,e50,e00,g1,g2,g3,hcp,hcnn,hcLL,g6,g7,h1,h2,go_sem];rfl|refine wz (be hk) ?_|refine wa ⟨by kernel_rfl,?_⟩
    refine am.keep [18,13,11,10,9,8,7,4,3] (by simp only[go_sem];rfl) ?_
    refine am.loop (fun i s'=>∃x,s'=⟨[(18,ii (i:Int)),(13,.bp 3 0),(11,.bp 2 0),(10,ii 0),(9,.sl y3 (LL.map ii)),(8,.sl y1 (nn c2)),(7,.sl .a (p.map ii)),(4,.bp 1 0),(3,.bp 0 0)],250,[.var s.cells false,.var (ntC n) false,.var [ii lo,ii hi] false,.var [ii x,ii n.w0.1,ii n.w0.2,ii n.w1.1,ii n.w1.2,ii n.w2.1,ii n.w2.2] false]⟩) 2 ⟨b,by first|(simp only[go_sem];done)|(simp only[go_sem];rfl)|rfl⟩ ?_
    rintro i _ hi2 ⟨x,rfl⟩;by_cases hlt:i<2
    ·have hlt':(i:Int)<2:=by omega
     have e4:IntKind.i64.wrap ((i:Int)+1)=((i+1:Nat):Int):=ai (by omega) (by omega)
     by_cases hi0:i=0
     ·have e1:((i:Int)==1)=false:=by rw[beq_eq_false_iff_ne];omega
      repeat with_reducible first|apply nx|apply wQ rfl|(first|apply wV|apply wW|apply wX|apply wy (be hk);kernel_rfl);simp only[Tryz.f18,CS,c62,hd,hda,hlt',e1,e4,v1,u1,u2,u3,n00,h1,h2,go_sem];rfl|refine wz (be hk) ?_|refine wa ⟨by kernel_rfl,?_⟩
      refine ak.t 4 [18,13,11,10,9,8,7,4,3] hlt (by simp only[aA,aF,an,az,cb,go_sem]) ⟨lo,by first|(simp only[go_sem];done)|(simp only[go_sem];rfl)|rfl⟩
     ·have e1:((i:Int)==1)=true:=by rw[beq_iff_eq];omega
      repeat with_reducible first|apply nx|apply wQ rfl|(first|apply wV|apply wW|apply wX|apply wy (be hk);kernel_rfl);simp only[Tryz.f18,CS,c62,hd,hda,hlt',e1,e4,v2,u4,u5,u6,n00,h1,h2,go_sem];rfl|refine wz (be hk) ?_|refine wa ⟨by kernel_rfl,?_⟩
      refine ak.t 4 [18,13,11,10,9,8,7,4,3] hlt (by simp only[aA,aF,an,az,cb,go_sem]) ⟨hi,by first|(simp only[go_sem];done)|(simp only[go_sem];rfl)|rfl⟩
    ·have hlt':¬(i:Int)<2:=by omega
     repeat with_reducible first|apply nx|apply wQ rfl|(first|apply wV|apply wW|apply wX|apply wy (be hk);kernel_rfl);simp only[Tryz.f18,CS,C9,C7,C8,c21,c24,yD,c34,c63,c65,c66,c71,c76,hlt',hd,hdn,hdp1,ha,hwy,hm1,hpd,hp5,hform,hpV,hdp,hpl,hln0,hci,hci2,hdl,hil0,hLl0,hfits,hprog,hdc1,hil,hie,hLm,hLe,hcp,hcc,hcnn,hcLL,n00,e00,h1,h2,beq_self_eq_true,go_sem];rfl|refine wz (be hk) ?_|refine wa ⟨by kernel_rfl,?_⟩
     exact⟨rfl,rfl,_,rfl,rfl⟩
   ·have hw6:=k6 b hb (by rw[hF'];simp)
    have g4:¬b<lo:=by omega
    have g5:¬hi<b:=by omega
    have x1:(slx p').closed=true:=ac p';have x2:(slC c').closed=true:=aO c';have x3:=ac (re (n.at b) c' (scn s.sc p') c');generalize slx p'=PX at hG x1;generalize slC c'=PC at hG x2;generalize re (n.at b) c' (scn s.sc p') c'=PL at hG x3;repeat with_reducible first|apply nx|apply wQ rfl|(first|apply wV|apply wW|apply wX|apply wy (be hk);kernel_rfl);simp only[Tryz.f18,CS,C9,C7,C8,c19,c20,c21,c46,c62,c72,hd,hdn,hda,h0,hst,he,hb0,hb9,hgt,hE,hG,hB0,n00,n55,n50,n05,e50,e00,g1,g2,g3,hcp,hcnn,hcLL,g6,g7,g4,g5,x1,x2,x3,h1,h2,go_sem];rfl|refine wz (be hk) ?_|refine wa ⟨by kernel_rfl,?_⟩
    refine am.keep [18,13,11,10,9,8,7,4,3] (by simp only[go_sem];rfl) ?_
    refine am.loop (fun i s'=>∃x,s'=⟨[(18,ii (i:Int)),(13,.bp 3 0),(11,.bp 2 0),(10,ii 0),(9,.sl y3 (LL.map ii)),(8,.sl y1 (nn c2)),(7,.sl .a (p.map ii)),(4,.bp 1 0),(3,.bp 0 0)],250,[.var s.cells false,.var (ntC n) false,.var [ii lo,ii hi] false,.var [ii x,ii n.w0.1,ii n.w0.2,ii n.w1.1,ii n.w1.2,ii n.w2.1,ii n.w2.2] false]⟩) 2 ⟨b,by first|(simp only[go_sem];done)|(simp only[go_sem];rfl)|rfl⟩ ?_
    rintro i _ hi2 ⟨x,rfl⟩;by_cases hlt:i<2
    ·have hlt':(i:Int)<2:=by omega
     have e4:IntKind.i64.wrap ((i:Int)+1)=((i+1:Nat):Int):=ai (by omega) (by omega)
     by_cases hi0:i=0
     ·have e1:((i:Int)==1)=false:=by rw[beq_eq_false_iff_ne];omega
      repeat with_reducible first|apply nx|apply wQ rfl|(first|apply wV|apply wW|apply wX|apply wy (be hk);kernel_rfl);simp only[Tryz.f18,CS,c62,hd,hda,hlt',e1,e4,v1,u1,u2,u3,n00,h1,h2,go_sem];rfl|refine wz (be hk) ?_|refine wa ⟨by kernel_rfl,?_⟩
      refine ak.t 4 [18,13,11,10,9,8,7,4,3] hlt (by simp only[aA,aF,an,az,cb,go_sem]) ⟨lo,by first|(simp only[go_sem];done)|(simp only[go_sem];rfl)|rfl⟩
     ·have e1:((i:Int)==1)=true:=by rw[beq_iff_eq];omega
      repeat with_reducible first|apply nx|apply wQ rfl|(first|apply wV|apply wW|apply wX|apply wy (be hk);kernel_rfl);simp only[Tryz.f18,CS,c62,hd,hda,hlt',e1,e4,v2,u4,u5,u6,n00,h1,h2,go_sem];rfl|refine wz (be hk) ?_|refine wa ⟨by kernel_rfl,?_⟩
      refine ak.t 4 [18,13,11,10,9,8,7,4,3] hlt (by simp only[aA,aF,an,az,cb,go_sem]) ⟨hi,by first|(simp only[go_sem];done)|(simp only[go_sem];rfl)|rfl⟩
    ·have hlt':¬(i:Int)<2:=by omega
     repeat with_reducible first|apply nx|apply wQ rfl|(first|apply wV|apply wW|apply wX|apply wy (be hk);kernel_rfl);simp only[Tryz.f18,CS,C9,C7,C8,c21,c24,yD,c34,c63,c65,c66,c71,c76,hlt',hd,hdn,hdp1,ha,hwy,hm1,hpd,hp5,hform,hpV,hdp,hpl,hln0,hci,hci2,hdl,hil0,hLl0,hfits,hprog,hdc1,hil,hie,hLm,hLe,hcp,hcc,hcnn,hcLL,n00,e00,h1,h2,beq_self_eq_true,go_sem];rfl|refine wz (be hk) ?_|refine wa ⟨by kernel_rfl,?_⟩
     exact⟨rfl,rfl,_,rfl,rfl⟩
end Go.Pv
