/- The law BranchMore: its function returns true, whatever it is given. -/
import Derived.Test.YtkjalecddameoaaGreatDoorQmVers
import Derived.Test.YtkjalecddameoaaGreatDoorQhSo
import Derived.Test.YtkjalecddameoaaGreatDoorQjPlays
set_option linter.all false
open List (length_map)
namespace Go.Pv
open Go Go.RowKit Go.Proofs
set_option maxRecDepth 200000
set_option maxHeartbeats 8000000
def la:aG:=aE (aE C9 44 c44) 46 c46
theorem bn(hk:al Tryz.prog 21 c21):au Tryz.prog la:=ah (ah (cfLc_ok hk) c44_ok) c46_ok
def Sty.more(s:Sty)(r:Rz):Sty:=⟨s.e,s.zs,s.sc,.a,s.rz++[r]⟩
theorem more_rl(s:Sty)(r:Rz):(s.more r).rl=s.rl++[r.2]:=by
 show(s.rz++[r]).map (·.2)=_
 rw[List.map_append];rfl
theorem more_ok{s:Sty}(h:s.ok=true){r:Rz}(hr:zOk r.1 (r.2.to.map ii)=true):(s.more r).ok=true:=by
 unfold Sty.ok at h ⊢
 simp only[Bool.and_eq_true]at h ⊢
 refine⟨⟨h.1.1,rfl⟩,?_⟩
 show(s.rz++[r]).all _=true
 rw[List.all_append]
 have h2:s.rz.all (fun q=>zOk q.1 (q.2.to.map ii))=true:=h.2
 rw[h2]
 simp[hr]
theorem d5{s:Sty}{n:Nt}{i:Nat}{p:List Int}(h:(aX s.e s.sc s.rl)[i]?=some p):(gK s n)[i]?=some (cX n s.sc p):=by
 unfold gK
 rw[List.getElem?_map,h];rfl
theorem d4(s:Sty)(n:Nt):(gK s n).length=(aX s.e s.sc s.rl).length:=by unfold gK;rw[length_map]
theorem mem_take{p q:List Int}{M:List (List Int)}{k:Nat}(h:M[k]?=some q):decide (p∈M.take (k+1))=(decide (p∈M.take k)||decide (p=q)):=by
 rw[List.take_add_one,h,Bool.eq_iff_iff]
 simp
theorem law_more(hk:al Tryz.prog 21 c21)(s:Sty)(hok:s.ok=true)(n:Nt)(r:Rz)(hr:zOk r.1 (r.2.to.map ii)=true):ab Tryz.prog 11 [.agg s.cells,.agg (ntC n),aT r] [] (.ret (.bool true)) []:=by
 refine ab.of0 hTT Tryz.func11 rfl rfl ?_
 have hd:=aS s hok
 have hdn:gJ (.agg (ntC n))=some n:=fF n
 have h1:=ap s.sc
 have h2:=ao s.rz
 have hre:aT r=.agg [ii r.2.frm,.sl r.1 (r.2.to.map ii)]:=rfl
 have h3:=ac r.2.to
 have hgt:∀a b:Int,(a>b)=(b<a):=fun _ _=>rfl
 rw[hre]
 cases h0:ub s
 ·repeat with_reducible first|apply nx|apply wQ rfl|(first|apply wV|apply wW|apply wX|apply wy (bn hk);kernel_rfl);simp only[Tryz.f11,la,C9,cfLb,cfLa,c19,c21,hd,h0,h1,h2,go_sem];rfl|refine wz (bn hk) ?_|refine wa ⟨by kernel_rfl,?_⟩
  exact⟨rfl,rfl,_,rfl,rfl⟩
 cases hst:s.story
 ·repeat with_reducible first|apply nx|apply wQ rfl|(first|apply wV|apply wW|apply wX|apply wy (bn hk);kernel_rfl);simp only[Tryz.f11,la,C9,cfLb,cfLa,c19,c20,c21,hd,hst,h0,h1,h2,go_sem];rfl|refine wz (bn hk) ?_|refine wa ⟨by kernel_rfl,?_⟩
  exact⟨rfl,rfl,_,rfl,rfl⟩
 cases he:evB n
 ·repeat with_reducible first|apply nx|apply wQ rfl|(first|apply wV|apply wW|apply wX|apply wy (bn hk);kernel_rfl);simp only[Tryz.f11,la,C9,cfLb,cfLa,c19,c20,c21,c46,hd,hdn,he,hst,h0,h1,h2,go_sem];rfl|refine wz (bn hk) ?_|refine wa ⟨by kernel_rfl,?_⟩
  exact⟨rfl,rfl,_,rfl,rfl⟩
 by_cases hl:(6:Int)<r.2.to.length
 ·repeat with_reducible first|apply nx|apply wQ rfl|(first|apply wV|apply wW|apply wX|apply wy (bn hk);kernel_rfl);simp only[Tryz.f11,la,C9,cfLb,cfLa,c19,c20,c21,c46,hd,hdn,he,hst,h0,h1,h2,hl,hgt,length_map,go_sem];rfl|refine wz (bn hk) ?_|refine wa ⟨by kernel_rfl,?_⟩
  exact⟨rfl,rfl,_,rfl,rfl⟩
 have hO:=Sty.story_ok hst
 have hrz:s.rz.length<=12:=by
  unfold ub at h0
  simp only[Bool.and_eq_true,decide_eq_true_eq]at h0
  exact h0.2
 have hrz1:1<=s.rz.length:=by
  have:=hO.r1
  rw[Sty.rl_len]at this
  exact this
 have hX:=more_ok hok hr
 have hXc:(s.more r).cells=[ii s.e,.sl s.zs (s.sc.map bF),.sl .a ((s.rz++[r]).map aT)]:=rfl
 have hXd:=aS (s.more r) hX
 have hXs:(s.more r).sc=s.sc:=rfl
 have hXe:(s.more r).e=s.e:=rfl
 have hXl:(s.more r).rl=s.rl++[r.2]:=more_rl s r
 have hcr:ad ((s.rz++[r]).map aT)=true:=ao _
 have hlr:(s.rz++[r]).length=s.rz.length+1:=by simp
 have hzr:s.zr≠.n:=fun e=>by
  have:=s.ok_r hok
  rw[e]at this
  have:s.rz=[]:=by simpa[zOk]using this
  rw[this]at hrz1;simp at hrz1
 repeat with_reducible first|(fail_if_success refine am.seq (x:=.region 4 _ _) ?_);apply nx|apply wQ rfl|(first|apply wV|apply wW|apply wX|apply wy (bn hk);kernel_rfl);simp only[Tryz.f11,la,C9,cfLb,cfLa,c19,c20,c21,c46,hd,hdn,he,hst,h0,h1,h2,h3,hl,hgt,length_map,go_sem];rfl|(fail_if_success show am _ (.region 4 _ _) _ _);refine wz (bn hk) ?_|refine wa ⟨by kernel_rfl,?_⟩
 have hne:(s.rz.map aT).isEmpty=false:=by
  cases hz:s.rz with
  |nil=>rw[hz]at hrz1;simp at hrz1
  |cons x l=>rfl
 have hall:(s.rz.map aT).all (fun y=>y.cells.length==2)=true:=by rw[List.all_map];exact List.all_eq_true.2 fun _ _=>rfl
 simp only[PV.cells]at hall
 have q1:s.rz.length*32<=140737488355328:=by omega
 have q2:s.rz.length<=maxLen:=by unfold maxLen;omega
 have q3:(s.rz.length+1)*32<=140737488355328:=by omega
 have q4:s.rz.length+1<=maxLen:=by unfold maxLen;omega
 repeat with_reducible first|(fail_if_success refine am.seq (x:=.region 5 _ _) ?_);apply nx|apply wQ rfl|(first|apply wV|apply wW|apply wX|apply wy (bn hk);kernel_rfl);simp only[Tryz.f11,hzr,hne,hall,q1,q2,q3,q4,h2,h3,length_map,go_sem];rfl|(fail_if_success show am _ (.region 5 _ _) _ _);refine wz (bn hk) ?_|refine wa ⟨by kernel_rfl,?_⟩
 refine am.keep [45,7,4,3] (by simp only[go_sem];rfl) ?_
 have hrow:s.rz.map aT++[.agg [ii r.2.frm,.sl r.1 (r.2.to.map ii)]]=(s.rz++[r]).map aT:=by rw[List.map_append];rfl
 rw[hrow]
 obtain⟨RW,hRW⟩:∃RW,RW=(s.rz++[r]).map aT:=⟨_,rfl⟩
 have hRl:RW.length=s.rz.length+1:=by rw[hRW,length_map,hlr]
 rw[←hRW]at hcr ⊢
 have hXd:cS (.agg [ii s.e,.sl s.zs (s.sc.map bF),.sl .a RW])=some (s.more r):=by rw[hRW];exact hXd
 clear hrow hXc hRW
 refine am.freezeZ (tm':=[(45,.sl .a RW),(7,.bp 3 0),(4,.bp 1 0),(3,.bp 0 0)]) (sg':=[.var s.cells false,.var (ntC n) false,.var [ii r.2.frm,.sl r.1 (r.2.to.map ii)] false,.var [ii s.e,.sl s.zs (s.sc.map bF),.ms 4 (s.rz.length+1)] false,.row false 80 2 RW true,.dead]) 45 4 rfl rfl hRl hcr rfl rfl ?_
 generalize s.rz.length+1=m at hRl ⊢
 refine am.varView 3 2 (c:=.ms 4 m) (c':=.sl .a RW) (sg':=[.var s.cells false,.var (ntC n) false,.var [ii r.2.frm,.sl r.1 (r.2.to.map ii)] false,.var [ii s.e,.sl s.zs (s.sc.map bF),.sl .a RW] false,.row false 80 2 RW true,.dead]) rfl rfl (show(if RW.length=m then some (PV.sl .a RW)else none)=_ by rw[if_pos hRl]) rfl ?_
 generalize s.more r=X at *
 cases hXst:X.story
 ·have n00:((0:Int) != 0)=false:=rfl
  repeat with_reducible first|apply nx|apply wQ rfl|(first|apply wV|apply wW|apply wX|apply wy (bn hk);kernel_rfl);simp only[Tryz.f11,la,C9,cfLb,cfLa,c20,c21,hXd,hXst,hRl,hcr,h1,go_sem];rfl|refine wz (bn hk) ?_|refine wa ⟨by kernel_rfl,?_⟩
  exact⟨rfl,rfl,_,rfl,rfl⟩
 have hOX:=Sty.story_ok hXst
 have hPM:∀p,p∈aX s.e s.sc s.rl->p∈aX X.e X.sc X.rl:=fun p hp=>by
  have hOX':StoryOk s.e s.sc (s.rl++[r.2]):=by rw[←hXs,←hXe,←hXl];exact hOX
  rw[hXs,hXe,hXl]
  exact f8 hO hOX' hp
 have hP:yz s=.tuple [.sl (plZ (aX s.e s.sc s.rl)) ((aX s.e s.sc s.rl).map slx),ii 0]:=by unfold yz;rw[hst];rfl
 have hM:yz X=.tuple [.sl (plZ (aX X.e X.sc X.rl)) ((aX X.e X.sc X.rl).map slx),ii 0]:=by unfold yz;rw[hXst];rfl
 have hV:rE s n=.tuple [isVd (gK s n),ii 0]:=by unfold rE;rw[hst,he];rfl
 have hW:rE X n=.tuple [isVd (gK X n),ii 0]:=by unfold rE;rw[hXst,he];rfl
 have hPl:=co hO
 have hMl:=co hOX
 have hVl:=d4 s n
 have hWl:=d4 X n
 have hVg:∀i p,(aX s.e s.sc s.rl)[i]?=some p->(gK s n)[i]?=some (cX n s.sc p):=fun i p h=>d5 h
 have hWg:∀i p,(aX X.e X.sc X.rl)[i]?=some p->(gK X n)[i]?=some (cX n s.sc p):=fun i p h=>by rw[←hXs];exact d5 h
 have hPt:∀p∈aX s.e s.sc s.rl,p.length<=maxLen:=fun p hp=>by have:=hO.plays_fine p hp;unfold maxLen;omega
 have hPz:plZ (aX s.e s.sc s.rl)=.n->aX s.e s.sc s.rl=[]:=plZ_n
 have hMz:plZ (aX X.e X.sc X.rl)=.n->aX X.e X.sc X.rl=[]:=plZ_n
 have hPc:=aC (aX s.e s.sc s.rl)
 have hMc:=aC (aX X.e X.sc X.rl)
 have hVi:isVd (gK s n)=.sl (if decide ((gK s n).length=0)=true then .n else .a) ((gK s n).map ii):=rfl
 have hWi:isVd (gK X n)=.sl (if decide ((gK X n).length=0)=true then .n else .a) ((gK X n).map ii):=rfl
 have hVz:(if decide ((gK s n).length=0)=true then Z.n else Z.a)=.n->gK s n=[]:=fun e=>by
  split at e
  ·rename_i h;exact List.length_eq_zero_iff.1 (of_decide_eq_true h)
  ·cases e
 have hWz:(if decide ((gK X n).length=0)=true then Z.n else Z.a)=.n->gK X n=[]:=fun e=>by
  split at e
  ·rename_i h;exact List.length_eq_zero_iff.1 (of_decide_eq_true h)
  ·cases e
 generalize (if decide ((gK s n).length=0)=true then Z.n else Z.a)=zv at hVi hVz
 generalize (if decide ((gK X n).length=0)=true then Z.n else Z.a)=zw at hWi hWz
 rw[hVi]at hV
 rw[hWi]at hW
 have hVc:=ac (gK s n)
 have hWc:=ac (gK X n)
 clear hVi hWi
 generalize gK s n=V at *
 generalize gK X n=Wv at *
 generalize plZ (aX s.e s.sc s.rl)=zP at *
 generalize plZ (aX X.e X.sc X.rl)=zM at *
 generalize aX s.e s.sc s.rl=P at *
 generalize aX X.e X.sc X.rl=M at *
 have g40:¬(40:Int)<(P.length:Int):=by omega
 have g41:¬(40:Int)<(M.length:Int):=by omega
 have n00:((0:Int) != 0)=false:=rfl
 have gPP:((P.length:Int) != (P.length:Int))=false:=by simp
 have gMM:((M.length:Int) != (M.length:Int))=false:=by simp
 repeat with_reducible first|apply nx|apply wQ rfl|(first|apply wV|apply wW|apply wX|apply wy (bn hk);kernel_rfl);simp only[Tryz.f11,la,C9,cfLb,cfLa,c20,c23,c44,hd,hdn,hst,hXd,hXst,hRl,hcr,hP,hM,hV,hW,hVl,hWl,hPc,hMc,hVc,hWc,g40,g41,n00,gPP,gMM,hgt,h1,h2,length_map,go_sem];rfl|refine wz (bn hk) ?_|refine wa ⟨by kernel_rfl,?_⟩
 refine am.keep [16,14,12,10,8] (by simp only[go_sem];rfl) ?_
 refine am.loop (fun i s'=>s'=⟨[(16,ii (i:Int)),(14,.sl zw (Wv.map ii)),(12,.sl zM (M.map slx)),(10,.sl zv (V.map ii)),(8,.sl zP (P.map slx))],144,[.var s.cells false,.var (ntC n) false,.var [ii r.2.frm,.sl r.1 (r.2.to.map ii)] false,.var [ii s.e,.sl s.zs (s.sc.map bF),.sl .a RW] false,.row false 80 2 RW true,.dead]⟩) P.length (by first|(simp only[go_sem];done)|(simp only[go_sem];rfl)|rfl) ?_
 have hls6:=fun L=>ae 6 _ (aC L)
 rintro i _ hi rfl
 by_cases hlt:i<P.length
 ·obtain⟨p,hp⟩:∃p,P[i]?=some p:=⟨_,List.getElem?_eq_getElem hlt⟩
  have hp':(P.map slx)[i]?=some (.sl .a (p.map ii)):=aw hp
  have hv':(V.map ii)[i]?=some (ii (cX n s.sc p)):=aw (hVg i p hp)
  have hdp:aN (.sl .a (p.map ii))=some p:=aI rfl
  have hcp:=ac p
  have hpl:=hPt p (List.mem_of_getElem? hp)
  have hlt':(i:Int)<P.length:=by omega
  have hzP:zP≠.n:=fun e=>by rw[hPz e]at hlt;simp at hlt
  have hzv:zv≠.n:=fun e=>by have:=hVz e;rw[this]at hVl;simp at hVl;omega
  have e4:IntKind.i64.wrap ((i:Int)+1)=((i+1:Nat):Int):=ai (by omega) (by omega)
  have hin:=hPM p (List.mem_of_getElem? hp)
  repeat with_reducible first|apply nx|apply wQ rfl|(first|apply wV|apply wW|apply wX|apply wy aa;kernel_rfl);simp only[Tryz.f11,hlt',hp',hv',hzP,hzv,length_map,go_sem];rfl|refine wz aa ?_|refine wa ⟨by kernel_rfl,?_⟩
  refine am.keep [18,17,16,14,12,10,8] (by simp only[go_sem];rfl) ?_
  refine am.loop (fun k s'=>s'=⟨[(18,ii (k:Int)),(17,.bool (decide (p∈M.take k))),(16,ii (i:Int)),(14,.sl zw (Wv.map ii)),(12,.sl zM (M.map slx)),(10,.sl zv (V.map ii)),(8,.sl zP (P.map slx))],144,[.var s.cells false,.var (ntC n) false,.var [ii r.2.frm,.sl r.1 (r.2.to.map ii)] false,.var [ii s.e,.sl s.zs (s.sc.map bF),.sl .a RW] false,.row false 80 2 RW true,.dead]⟩) M.length (by rw[show decide (p∈M.take 0)=false from by simp];first|(simp only[go_sem];done)|(simp only[go_sem];rfl)|rfl) ?_
  rintro k _ hk' rfl
  by_cases hkl:k<M.length
  ·obtain⟨q,hq⟩:∃q,M[k]?=some q:=⟨_,List.getElem?_eq_getElem hkl⟩
   have hq':(M.map slx)[k]?=some (.sl .a (q.map ii)):=aw hq
   have hw':(Wv.map ii)[k]?=some (ii (cX n s.sc q)):=aw (hWg k q hq)
   have hdq:aN (.sl .a (q.map ii))=some q:=aI rfl
   have hcq:=ac q
   have hkl':(k:Int)<M.length:=by omega
   have hzM:zM≠.n:=fun e=>by rw[hMz e]at hkl;simp at hkl
   have hzw:zw≠.n:=fun e=>by have:=hWz e;rw[this]at hWl;simp at hWl;omega
   have e5:IntKind.i64.wrap ((k:Int)+1)=((k+1:Nat):Int):=ai (by omega) (by omega)
   have hmt:=mem_take (p:=p) hq
   by_cases hpq:p=q
   ·have hd1:decide (p=q)=true:=decide_eq_true hpq
    have hvv:(cX n s.sc p==cX n s.sc q)=true:=by rw[hpq];exact beq_self_eq_true _
    rw[hd1,Bool.or_true]at hmt
    repeat with_reducible first|apply nx|apply wQ rfl|(first|apply wV|apply wW|apply wX|apply wy (bn hk);kernel_rfl);simp only[Tryz.f11,la,C9,yD,hdp,hdq,hcp,hcq,hpl,hd1,hvv,hkl',hp',hq',hv',hw',hzP,hzM,hzv,hzw,e5,length_map,go_sem];rfl|refine wz (bn hk) ?_|refine wa ⟨by kernel_rfl,?_⟩
    refine ak.t 6 [18,17,16,14,12,10,8] hkl (by simp only[aA,aF,an,az,ae 6 _ hcr,hls6,go_sem]) (by rw[hmt];first|(simp only[go_sem];done)|(simp only[go_sem];rfl)|rfl)
   ·have hd1:decide (p=q)=false:=decide_eq_false hpq
    rw[hd1,Bool.or_false]at hmt
    repeat with_reducible first|apply nx|apply wQ rfl|(first|apply wV|apply wW|apply wX|apply wy (bn hk);kernel_rfl);simp only[Tryz.f11,la,C9,yD,hdp,hdq,hcp,hcq,hpl,hd1,hkl',hp',hq',hzP,hzM,e5,length_map,go_sem];rfl|refine wz (bn hk) ?_|refine wa ⟨by kernel_rfl,?_⟩
    refine ak.t 6 [18,17,16,14,12,10,8] hkl (by simp only[aA,aF,an,az,ae 6 _ hcr,hls6,go_sem]) (by rw[hmt];first|(simp only[go_sem];done)|(simp only[go_sem];rfl)|rfl)
  ·obtain rfl:k=M.length:=by omega
   have hkl':¬(M.length:Int)<M.length:=by omega
   rw[List.take_length,decide_eq_true hin]
   repeat with_reducible first|apply nx|apply wQ rfl|(first|apply wV|apply wW|apply wX|apply wy aa;kernel_rfl);simp only[Tryz.f11,hkl',e4,length_map,go_sem];rfl|refine wz aa ?_|refine wa ⟨by kernel_rfl,?_⟩
   refine ak.t 6 [16,14,12,10,8] hlt (by simp only[aA,aF,an,az,ae 6 _ hcr,hls6,go_sem]) (by first|(simp only[go_sem];done)|(simp only[go_sem];rfl)|rfl)
 ·obtain rfl:i=P.length:=by omega
  have hlt':¬(P.length:Int)<P.length:=by omega
  repeat with_reducible first|apply nx|apply wQ rfl|(first|apply wV|apply wW|apply wX|apply wy (bn hk);kernel_rfl);simp only[Tryz.f11,la,C9,cfLb,cfLa,c21,hlt',length_map,go_sem];rfl|refine wz (bn hk) ?_|refine wa ⟨by kernel_rfl,?_⟩
  exact⟨rfl,rfl,_,rfl,rfl⟩
end Go.Pv
