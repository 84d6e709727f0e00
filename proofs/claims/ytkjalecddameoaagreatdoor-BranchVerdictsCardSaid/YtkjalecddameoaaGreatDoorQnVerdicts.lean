import Derived.Test.YtkjalecddameoaaGreatDoorQmVers
import Derived.Test.YtkjalecddameoaaGreatDoorQjPlays
set_option linter.all false
namespace Go.Pv
open Go Go.RowKit Go.Proofs
set_option maxRecDepth 200000
set_option maxHeartbeats 8000000
def cfN8:aG:=aE (aE (aE (aE (aE (aE cfLc 44 c44) 45 c45) 46 c46) 47 c47) 48 c48) 49 c49
theorem fj(hk:al Tryz.prog 21 c21):au Tryz.prog cfN8:=ah (ah (ah (ah (ah (ah (cfLc_ok hk) c44_ok) c45_ok) c46_ok) c47_ok) c48_ok) c49_ok
theorem fitL_len{n:Nt}{sc:List Sn}(ps:List (List Int)):(jf n sc ps).length<=ps.length:=List.length_filter_le ..
theorem qK(hk:al Tryz.prog 21 c21)(s:Sty)(hok:s.ok=true)(n:Nt):ab Tryz.prog 8 [.agg s.cells,.agg (ntC n)] [] (.ret (.bool true)) []:=by
 refine ab.of0 hTT Tryz.func8 rfl rfl ?_
 have hd:=aS s hok
 have hdn:gJ (.agg (ntC n))=some n:=fF n
 have h1:=ap s.sc
 have h2:=ao s.rz
 have n00:((0:Int) != 0)=false:=rfl
 cases h0:ub s
 ·repeat with_reducible first|apply nx|apply wQ rfl|(first|apply wV|apply wW|apply wX|apply wy (fj hk);kernel_rfl);simp only[Tryz.f8,cfN8,cfLc,cfLb,cfLa,c19,c21,hd,h0,h1,h2,go_sem];rfl|refine wz (fj hk) ?_|refine wa ⟨by kernel_rfl,?_⟩
  exact⟨rfl,rfl,_,rfl,rfl⟩
 have hVb:(s.story&&evB n)=false->rE s n=.tuple [.sl .n [],ii 2]:=fun e=>by unfold rE;rw[e,if_neg (by simp)]
 have hCb:(s.story&&evB n)=false->kY s n=.tuple [.sl .n [],ii 2]:=fun e=>by unfold kY;rw[e,if_neg (by simp)]
 cases hst:s.story
 ·have hV:=hVb (by rw[hst];rfl)
  have hC:=hCb (by rw[hst];rfl)
  repeat with_reducible first|apply nx|apply wQ rfl|(first|apply wV|apply wW|apply wX|apply wy (fj hk);kernel_rfl);simp only[Tryz.f8,cfN8,cfLc,cfLb,cfLa,c19,c20,c21,c44,c45,c46,hd,hdn,h0,hst,hV,hC,h1,h2,beq_self_eq_true,go_sem];rfl|refine wz (fj hk) ?_|refine wa ⟨by kernel_rfl,?_⟩
  exact⟨rfl,rfl,_,rfl,rfl⟩
 cases he:evB n
 ·have hV:=hVb (by rw[hst,he];rfl)
  have hC:=hCb (by rw[hst,he];rfl)
  repeat with_reducible first|apply nx|apply wQ rfl|(first|apply wV|apply wW|apply wX|apply wy (fj hk);kernel_rfl);simp only[Tryz.f8,cfN8,cfLc,cfLb,cfLa,c19,c20,c21,c44,c45,c46,hd,hdn,h0,hst,he,hV,hC,h1,h2,beq_self_eq_true,go_sem];rfl|refine wz (fj hk) ?_|refine wa ⟨by kernel_rfl,?_⟩
  exact⟨rfl,rfl,_,rfl,rfl⟩
 have hO:=Sty.story_ok hst
 have k1:=hO.s1
 have k2:s.sc.length<=1000:=by have:=hO.s8;omega
 have hse:(s.story&&evB n)=true:=by rw[hst,he];rfl
 obtain⟨zz,hzz⟩:∃zz,zz=(if decide ((gK s n).length=0)=true then Z.n else Z.a):=⟨_,rfl⟩
 have hVi:isVd (gK s n)=.sl zz ((gK s n).map ii):=by rw[hzz];rfl
 have hzo:zOk zz ((gK s n).map ii)=true:=qy fun e=>by
  rw[hzz]at e
  split at e
  ·rename_i h
   exact List.length_eq_zero_iff.1 (of_decide_eq_true h)
  ·cases e
 clear hzz
 have hV:rE s n=.tuple [.sl zz ((gK s n).map ii),ii 0]:=by unfold rE;rw[if_pos hse,hVi]
 have hdV:aN (.sl zz ((gK s n).map ii))=some (gK s n):=aI hzo
 have hcV:=ac (gK s n)
 have hlV:(gK s n).length<=maxLen:=by
  have:=co hO
  unfold gK maxLen
  rw[List.length_map];omega
 have heV:decide (gK s n=gK s n)=true:=decide_eq_true rfl
 have hCc:kY s n=el s.sc.length (jf n s.sc (aX s.e s.sc s.rl)):=by unfold kY;rw[if_pos hse]
 have hPl:(jf n s.sc (aX s.e s.sc s.rl)).length<=1000:=by
  have:=co hO
  have:=fitL_len (n:=n) (sc:=s.sc) (aX s.e s.sc s.rl)
  omega
 have hPa:((jf n s.sc (aX s.e s.sc s.rl)).all fun p=>decide (p.length<=1000))=true:=List.all_eq_true.2 fun p hp=>decide_eq_true (by have:=hO.plays_fine p (Aa.1 hp).1;omega)
 generalize hF:jf n s.sc (aX s.e s.sc s.rl)=ps at hCc hPl hPa
 have hPd:=wC ps
 have hPc:=aC ps
 have n55:((5:Int) != 5)=false:=rfl
 by_cases b:ps.length=0
 ·have hC:kY s n=.tuple [.sl .n [],ii 5]:=by rw[hCc];unfold el;rw[if_pos b]
  have b0:((ps.length:Int)==0)=true:=by rw[b];rfl
  repeat with_reducible first|apply nx|apply wQ rfl|(first|apply wV|apply wW|apply wX|apply wy (fj hk);kernel_rfl);simp only[Tryz.f8,cfN8,cfLc,cfLb,cfLa,c19,c20,c21,c44,c45,c46,c47,c48,c49,lJ,hd,hdn,h0,hst,he,hV,hVi,hC,hdV,hcV,hlV,heV,hF,b0,n00,n55,h1,h2,beq_self_eq_true,List.length_map,go_sem];rfl|refine wz (fj hk) ?_|refine wa ⟨by kernel_rfl,?_⟩
  exact⟨rfl,rfl,_,rfl,rfl⟩
 ·have hC:kY s n=.tuple [.sl .a ((bV s.sc.length ps).map ii),ii 0]:=by rw[hCc];unfold el;rw[if_neg b]
  have b0:((ps.length:Int)==0)=false:=by rw[beq_eq_false_iff_ne];omega
  have bn:decide (ps=[])=false:=decide_eq_false fun e=>b (by rw[e];rfl)
  have hwl:=ig s.sc.length ps
  have hwc:=ac (bV s.sc.length ps)
  have hwd:aN (.sl .a ((bV s.sc.length ps).map ii))=some (bV s.sc.length ps):=aI rfl
  have hws:(bV s.sc.length ps).length<=100000:=by omega
  have hwe:decide (bV s.sc.length ps=bV s.sc.length ps)=true:=decide_eq_true rfl
  repeat with_reducible first|apply nx|apply wQ rfl|(first|apply wV|apply wW|apply wX|apply wy (fj hk);kernel_rfl);simp only[Tryz.f8,cfN8,cfLc,cfLb,cfLa,c19,c20,c21,c33,cSw,c44,c45,c46,c47,c48,c49,lJ,hd,hdn,h0,hst,he,hV,hVi,hC,hdV,hcV,hlV,heV,hF,hPd,hPc,hPa,hPl,k1,k2,hwc,hwd,hws,hwe,b0,bn,n00,n55,h1,h2,beq_self_eq_true,List.length_map,go_sem];rfl|refine wz (fj hk) ?_|refine wa ⟨by kernel_rfl,?_⟩
  exact⟨rfl,rfl,_,rfl,rfl⟩
end Go.Pv
