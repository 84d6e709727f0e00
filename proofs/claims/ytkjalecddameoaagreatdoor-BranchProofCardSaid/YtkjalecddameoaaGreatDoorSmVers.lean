import Derived.Test.YtkjalecddameoaaGreatDoorSmJudge
import Derived.Test.YtkjalecddameoaaGreatDoorQiRef
import Derived.Test.YtkjalecddameoaaGreatDoorSoMore
set_option linter.all false
open List (length_map)
namespace Go.Pv
open Go Go.RowKit Go.Proofs
set_option maxRecDepth 200000
set_option maxHeartbeats 8000000
def versB(s:Sty)(n:Nt):List Int:=(aX s.e s.sc s.rl).map (cX n s.sc)
def isVd(l:List Int):PV:=.sl (if decide (l.length=0)=true then .n else .a) (l.map ii)
def versR(s:Sty)(n:Nt):PV:=if(s.story&&evB n)=true then .tuple [isVd (versB s n),ii 0]else .tuple [.sl .n [],ii 2]
def BJ:aG:=aE (aE (aE (aE (aE cf0 87 c87) 88 c88) 89 c89) 101 c101) 102 c102
theorem cC:au Tryz.prog BJ:=ah (ah (ah (ah (ah aa qE) qG) va) c101_ok) c102_ok
theorem Verdicts_44(s:Sty)(hok:s.ok=true)(n:Nt):ab Tryz.prog 44 [.agg s.cells,.agg (ntC n)] [] (.ret (versR s n)) []:=by
 refine ab.ofF hTT Tryz.func44 rfl rfl ?_;have hds:=aS s hok;have hdn:gJ (.agg (ntC n))=some n:=fF n;have hc1:=ap s.sc;have hc2:=ao s.rz;have hV:versR s n=if(s.story&&evB n)=true then .tuple [isVd (versB s n),ii 0]else .tuple [.sl .n [],ii 2]:=rfl;generalize versR s n=V at hV ⊢;cases hst:s.story with
 |false =>
  rw[hst,Bool.false_and,if_neg (by simp)]at hV
  subst hV;repeat with_reducible first|apply nx|apply wQ rfl|(first|apply wV|apply wW|apply wX|apply wy cC;kernel_rfl);simp only[Tryz.f44,BJ,c87,hds,hst,hc1,hc2,go_sem];rfl|refine wz cC ?_|refine wa ⟨by kernel_rfl,?_⟩
  exact⟨rfl,rfl,_,rfl,aq rfl⟩
 |true =>
  cases he:evB n with
  |false =>
   rw[hst,he,Bool.true_and,if_neg (by simp)]at hV
   subst hV;repeat with_reducible first|apply nx|apply wQ rfl|(first|apply wV|apply wW|apply wX|apply wy cC;kernel_rfl);simp only[Tryz.f44,BJ,c87,c101,hds,hdn,hst,he,hc1,hc2,go_sem];rfl|refine wz cC ?_|refine wa ⟨by kernel_rfl,?_⟩
   exact⟨rfl,rfl,_,rfl,aq rfl⟩
  |true =>
   rw[hst,he,Bool.true_and,if_pos rfl]at hV;have hS:StoryOk s.e s.sc s.rl:=fH.1 hst;have hp:=Sty.story_parts hst;have hdt:=eD s hok hst;have h3:=ac s.mm;have h4:=ac s.ln;have hlen:=co hS;have hvd:∀p∈aX s.e s.sc s.rl,vdB s n p=true:=fun p hp=>vd_to (pY hok hst he hp)
   unfold versB isVd at hV;rw[length_map]at hV;generalize hps:aX s.e s.sc s.rl=ps at hlen hvd hV;obtain⟨zz,hzz⟩:∃zz,zz=(if decide (ps.length=0)=true then Z.n else Z.a):=⟨_,rfl⟩;have hzn:zz=.n->ps=[]:=fun e=>by
    rw[hzz]at e;split at e
    ·rename_i h
     exact List.length_eq_zero_iff.1 (of_decide_eq_true h)
    ·cases e
   have hpv:kT ps=.sl zz (ps.map slx):=by rw[hzz];rfl
   have hls:bD 3 (ps.map slx)=true:=ae 3 _ (aC ps);clear hzz;subst hV;repeat with_reducible first|apply nx|apply wQ rfl|(first|apply wV|apply wW|apply wX|apply wy cC;kernel_rfl);simp only[Tryz.f44,BJ,c87,c88,c89,c101,hds,hdn,hst,he,hp,hdt,hps,hpv,hc1,hc2,h3,h4,length_map,go_sem];rfl|refine wz cC ?_|refine wa ⟨by kernel_rfl,?_⟩
   refine am.keep [21,20,19,6,3,2] (by simp only[go_sem];rfl) ?_
   refine am.nilRow 6 81 1 (by simp only[go_sem]) (by simp only[go_sem];rfl) (by simp only[go_sem];rfl) ?_
   refine am.loop (fun i s'=>s'=⟨[(21,ii (i:Int)),(20,ii (ps.length:Int)),(19,.sl zz (ps.map slx)),(6,.ms 2 i),(3,.bp 1 0),(2,.bp 0 0)],35,[.var s.cells false,.var (ntC n) false,.row (decide (i=0)) 81 1 (((ps.take i).map (cX n s.sc)).map ii) false]⟩) ps.length (by first|(simp only[go_sem];done)|(simp only[go_sem];rfl)|rfl) ?_
   rintro i _ hi rfl;by_cases hlt:i<ps.length
   ·obtain⟨p,hp⟩:∃p,ps[i]?=some p:=⟨_,List.getElem?_eq_getElem hlt⟩
    have hp':(ps.map slx)[i]?=some (.sl .a (p.map ii)):=aw hp;have hv:=hvd p (List.mem_of_getElem? hp);have hdi:aN (.sl .a (p.map ii))=some p:=aI rfl;have hcp:=ac p;have hlt':(i:Int)<ps.length:=by omega
    have hzn':zz≠.n:=fun e=>by rw[hzn e]at hlt;simp at hlt
    have e4:IntKind.i64.wrap ((i:Int)+1)=((i+1:Nat):Int):=ai (by omega) (by omega)
    have l1:i+1<=maxLen:=by unfold maxLen;omega
    have l2:(i+1)*8<=140737488355328:=by omega
    have hd1:decide (i+1=0)=false:=by simp
    have hst2:(ps.take (i+1)).map (cX n s.sc)=(ps.take i).map (cX n s.sc)++[cX n s.sc p]:=by rw[List.take_add_one,hp,List.map_append];rfl
    have hll:((ps.take i).map (cX n s.sc)).length=i:=by rw[length_map,List.length_take];omega
    generalize (ps.take i).map (cX n s.sc)=A at hst2 hll ⊢;repeat with_reducible first|apply nx|apply wQ rfl|(first|apply wV|apply wW|apply wX|apply wy cC;kernel_rfl);simp only[Tryz.f44,BJ,c102,hds,hdn,hdi,hv,hp',hlt',hzn',e4,l1,l2,hll,hc1,hc2,hcp,length_map,go_sem];rfl|refine wz cC ?_|refine wa ⟨by kernel_rfl,?_⟩
    refine ak.t 3 [21,20,19,6,3,2] hlt (by simp only[aA,aF,an,az,bJ,hls,go_sem]) (by rw[hst2,List.map_append];first|(simp only[hd1,go_sem];done)|(simp only[hd1,go_sem];rfl)|rfl)
   ·obtain rfl:i=ps.length:=by omega
    rw[List.take_length];have hlt':¬(ps.length:Int)<ps.length:=by omega
    repeat with_reducible first|apply nx|apply wQ rfl|(first|apply wV|apply wW|apply wX|apply wy aa;kernel_rfl);simp only[Tryz.f44,hlt',length_map,go_sem];rfl|refine wz aa ?_|refine wa ⟨by kernel_rfl,?_⟩
    exact⟨rfl,rfl,_,rfl,oG (id:=2) rfl (ac _) (by rw[length_map,length_map]) rfl⟩
def c44:Tb_
 |[v,w],sg=>match cS v,gJ w with
  |some s,some n=>some (.ret (versR s n),sg)
  |_,_=>none
 |_,_=>none
theorem c44_ok:al Tryz.prog 44 c44:=al.of0 (ent Tryz.func44 rfl) fun args sg r sg' h=>by
 unfold c44 at h;split at h <;> try (cases h;done)
 split at h <;> cases h
 rename_i s n h1 h2;obtain⟨rfl,hok⟩:=aM h1;obtain rfl:=dz h2;exact⟨_,rfl,rfl,by rw[af,af,cm];rfl,Verdicts_44 s hok n⟩
end Go.Pv
