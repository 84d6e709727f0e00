/- Contracts: lists compared, the reference's and the laws'. -/
import Derived.Test.YtkjalecddameoaaGreatDoorQiScene
import Derived.Test.YtkjalecddameoaaGreatDoorQgEnds
import Derived.Test.YtkjalecddameoaaGreatDoorQiWays
import Derived.Test.YtkjalecddameoaaGreatDoorQgWords
set_option linter.all false
namespace Go.Pv
open Go Go.RowKit Go.Proofs
set_option maxRecDepth 200000
set_option maxHeartbeats 8000000
def shortB (s:Sty):Bool:=((s.rz.take 13).all fun q=>decide (q.2.to.length ≤ 6)) && decide (s.sc.length ≤ 10) && decide (s.rz.length ≤ 12)
theorem short_19 (s:Sty) (hok:s.ok = true):CallOk Tryz.prog 19 [.agg s.cells] [] (.ret (.bool (shortB s))) []:=by
 refine CallOk.of0 hTT Tryz.func19 rfl rfl ?_
 have h1:=closedL_sns s.sc
 have h2:=closedL_rzs s.rz
 unfold shortB
 repeat (with_reducible (first | apply nx | apply wQ rfl | ((first | apply wV | apply wW | apply wX | (apply wy cf0_ok;(focus kernel_rfl)));(focus (simp only [Tryz.f19,go_sem];rfl))) | refine wz cf0_ok ?_ | (refine wa ?_;refine And.intro ?_ ?_;(focus kernel_rfl))))
 refine RunQ.keep [3,2,1] (by simp only [go_sem];rfl) ?_
 obtain ⟨T,hT⟩:∃ T,T = s.rz.take 13:=⟨_,rfl⟩
 have hTl:T.length = min 13 s.rz.length:=by rw [hT,List.length_take]
 rw [← hT]
 obtain ⟨p,hp⟩:∃ p:Rz→Bool,p = fun q=>decide (q.2.to.length ≤ 6):=⟨_,rfl⟩
 rw [← hp]
 refine RunQ.loop (fun i s'=>T.all p = (T.drop i).all p∧s' = ⟨[(3,ii (i:Nat)),(2,.bool false),(1,.bp 0 0)],33,[.var s.cells false]⟩) T.length ⟨rfl,by simp only [go_sem]⟩ ?_
 rintro i _ hi ⟨hm,rfl⟩
 by_cases hlt:i < T.length
 ·obtain ⟨q,hq⟩:∃ q,T[i]? = some q:=⟨_,List.getElem?_eq_getElem hlt⟩
  have hq0:s.rz[i]? = some q:=by rw [hT,List.getElem?_take_of_lt (by omega)] at hq;exact hq
  have hq':(s.rz.map encRz)[i]? = some (.agg [ii q.2.frm,.sl q.1 (q.2.to.map ii)]):=map_get hq0
  have hlt1:(i:Int) < s.rz.length:=by omega
  have hlt2:(i:Int) < 13:=by omega
  have hz':s.zr ≠ .n:=fun e=>by have:=zOk_map (Sty.ok_r hok) e;rw [this,List.length_nil] at hlt1;omega
  have e4:IntKind.i64.wrap ((i:Int) + 1) = ((i + 1:Nat):Int):=wrap_id (by omega) (by omega)
  rw [all_step hq] at hm
  by_cases hql:q.2.to.length ≤ 6
  ·have hg:¬ (6:Int) < (q.2.to.length:Int):=by omega
   rw [show p q = true by rw [hp];exact decide_eq_true hql,Bool.true_and] at hm
   repeat (with_reducible (first | apply nx | apply wQ rfl | ((first | apply wV | apply wW | apply wX | (apply wy cf0_ok;(focus kernel_rfl)));(focus (simp only [Tryz.f19,hq',hlt1,hlt2,hz',e4,hg,gt_iff_lt,List.length_map,go_sem];rfl))) | refine wz cf0_ok ?_ | (refine wa ?_;refine And.intro ?_ ?_;(focus kernel_rfl))))
   refine roundQ.t 1 [3,2,1] hlt (by simp only [ltB_sns,ltB_rzs,ltB_sl,go_sem]) ⟨hm,by simp only [go_sem]⟩
  ·have hg:(6:Int) < (q.2.to.length:Int):=by omega
   rw [show p q = false by rw [hp];exact decide_eq_false hql,Bool.false_and] at hm
   repeat (with_reducible (first | apply nx | apply wQ rfl | ((first | apply wV | apply wW | apply wX | (apply wy cf0_ok;(focus kernel_rfl)));(focus (simp only [Tryz.f19,hq',hlt1,hlt2,hz',e4,hg,gt_iff_lt,List.length_map,go_sem];rfl))) | refine wz cf0_ok ?_ | (refine wa ?_;refine And.intro ?_ ?_;(focus kernel_rfl))))
   exact ⟨rfl,rfl,_,rfl,by rw [hm];rfl⟩
 ·rw [List.drop_eq_nil_of_le (by omega)] at hm
  have hd1:decide ((s.sc.length:Int) ≤ 10) = decide (s.sc.length ≤ 10):=by rw [decide_eq_decide];omega
  have hd2:decide ((s.rz.length:Int) ≤ 12) = decide (s.rz.length ≤ 12):=by rw [decide_eq_decide];omega
  have hx:(i:Int) < s.rz.length→¬ (i:Int) < 13:=fun _=>by omega
  by_cases h1:(i:Int) < s.rz.length
  ·have h2:=hx h1
   cases h3:decide (s.sc.length ≤ 10)
   ·repeat (with_reducible (first | apply nx | apply wQ rfl | ((first | apply wV | apply wW | apply wX | (apply wy cf0_ok;(focus kernel_rfl)));(focus (simp only [Tryz.f19,h1,h2,hd1,hd2,h3,List.length_map,go_sem];rfl))) | refine wz cf0_ok ?_ | (refine wa ?_;refine And.intro ?_ ?_;(focus kernel_rfl))))
    exact ⟨rfl,rfl,_,rfl,by rw [hm];rfl⟩
   ·repeat (with_reducible (first | apply nx | apply wQ rfl | ((first | apply wV | apply wW | apply wX | (apply wy cf0_ok;(focus kernel_rfl)));(focus (simp only [Tryz.f19,h1,h2,hd1,hd2,h3,List.length_map,go_sem];rfl))) | refine wz cf0_ok ?_ | (refine wa ?_;refine And.intro ?_ ?_;(focus kernel_rfl))))
    exact ⟨rfl,rfl,_,rfl,by rw [hm];rfl⟩
  ·cases h3:decide (s.sc.length ≤ 10)
   ·repeat (with_reducible (first | apply nx | apply wQ rfl | ((first | apply wV | apply wW | apply wX | (apply wy cf0_ok;(focus kernel_rfl)));(focus (simp only [Tryz.f19,h1,hd1,hd2,h3,List.length_map,go_sem];rfl))) | refine wz cf0_ok ?_ | (refine wa ?_;refine And.intro ?_ ?_;(focus kernel_rfl))))
    exact ⟨rfl,rfl,_,rfl,by rw [hm];rfl⟩
   ·repeat (with_reducible (first | apply nx | apply wQ rfl | ((first | apply wV | apply wW | apply wX | (apply wy cf0_ok;(focus kernel_rfl)));(focus (simp only [Tryz.f19,h1,hd1,hd2,h3,List.length_map,go_sem];rfl))) | refine wz cf0_ok ?_ | (refine wa ?_;refine And.intro ?_ ?_;(focus kernel_rfl))))
    exact ⟨rfl,rfl,_,rfl,by rw [hm];rfl⟩
def c19:List PV→List Box→Option (PRes × List Box)
 | [v],sg=>match decSt v with
  | some s=>some (.ret (.bool (shortB s)),sg)
  | none=>none
 | _,_=>none
theorem c19_ok:ConOk Tryz.prog 19 c19:=ConOk.of0 (ent Tryz.func19 rfl) fun args sg r sg' h=>by
 unfold c19 at h
 split at h <;> try (cases h;done)
 split at h <;> cases h
 rename_i s h1
 obtain ⟨rfl,hok⟩:=decSt_inv h1
 exact ⟨_,rfl,rfl,by rw [ltBL_cons,ltB_st];rfl,short_19 s hok⟩
end Go.Pv
namespace Go.Pv
open Go Go.RowKit Go.Proofs
set_option maxRecDepth 200000
set_option maxHeartbeats 8000000
end Go.Pv
