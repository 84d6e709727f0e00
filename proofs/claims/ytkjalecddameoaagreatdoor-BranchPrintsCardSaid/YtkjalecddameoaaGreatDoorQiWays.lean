/- Contracts: what a story's motifs have, the reference's; whether a story is as defined. -/
import Derived.Test.YtkjalecddameoaaGreatDoorQiScene
set_option linter.all false
namespace Go.Pv
open Go Go.RowKit Go.Proofs
set_option maxRecDepth 200000
set_option maxHeartbeats 8000000
abbrev ssU (s:Sty) (mm ll:List Int):List Box:=[.var s.cells false,.row false 3 1 (mm.map ii) false,.row false 3 1 (ll.map ii) false]
theorem leave_tupR {sg:List Box} {i j n m:Nat} {e1 e2:TypeId} {k1 k2:Nat} {es1 es2:List PV} (h1:sg[i]? = some (.row false e1 k1 es1 false)) (h2:(sg.set i (.row false e1 k1 es1 true))[j]? = some (.row false e2 k2 es2 false)) (hn:n = es1.length) (hm:m = es2.length) (c1:closedL es1 = true) (c2:closedL es2 = true) :
 leaveC0 0 (.tuple [.ms i n,.ms j m]) sg = (.tuple [.sl .a es1,.sl .a es2],[]):=by
 refine leaveF ?_ (by simp [PV.closed,closedL,c1,c2])
 rw [frzX_tup (n:=7) (by simp [closedL,PV.closed])]
 simp only [frzL,frzX_row (n:=5) h1 c1 hn,frzX_row (n:=5) h2 c2 hm]
 rfl
theorem ways_80 (s:Sty) (hok:s.ok = true) (hP:PartsOk s.e s.sc s.rl):CallOk Tryz.prog 80 [.agg s.cells] [] (.ret (.tuple [.sl .a (s.rm.map ii),.sl .a (s.rn.map ii)])) []:=by
 refine CallOk.ofF hTT Tryz.func80 rfl rfl ?_
 obtain ⟨n,hnn⟩:∃ n,n = s.num:=⟨_,rfl⟩
 have hn:s.e + s.sc.length = n:=by rw [hnn];unfold Sty.num;have:=hP.e1;omega
 have hn1:n ≤ 14:=by have:=hP.e6;have:=hP.s8;omega
 have e1:IntKind.i64.wrap (s.e + (s.sc.length:Int)) = (n:Int):=by rw [hn];exact wrap_id (by omega) (by omega)
 have e2:IntKind.i64.wrap ((n:Int) - 1) = (n:Int) - 1:=wrap_id (by omega) (by omega)
 have r1:¬ (n:Int) < 0:=by omega
 have r2:8 * n ≤ 281474976710656:=by omega
 have r3:n ≤ maxLen:=by unfold maxLen;omega
 repeat (with_reducible (first | apply nx | apply wQ rfl | ((first | apply wV | apply wW | apply wX | (apply wy cf0_ok;(focus kernel_rfl)));(focus (simp only [Tryz.f80,e1,e2,r1,r2,r3,List.length_map,List.length_replicate,go_sem];rfl))) | refine wz cf0_ok ?_ | (refine wa ?_;refine And.intro ?_ ?_;(focus kernel_rfl))))
 refine RunQ.keep [6,5,4,1] (by simp only [go_sem];rfl) ?_
 obtain ⟨T,hT⟩:∃ T:Nat→List (Nat × Nat),T = tabT (min 41) (min 11) s.e.toNat n s.rl:=⟨_,rfl⟩
 have hrab:T n = s.rab:=by rw [hT,hnn];rfl
 refine RunQ.loop (fun i s'=>s' = ⟨[(6,ii ((n:Int) - 1 - (i:Nat))),(5,.ms 2 n),(4,.ms 1 n),(1,.bp 0 0)],111,ssU s (padT Prod.fst (n - i) (T i)) (padT Prod.snd (n - i) (T i))⟩) n (by
  rw [hT]
  simp only [tabT,Int.sub_zero,ssU,go_sem]
  rw [show padT Prod.snd n [] = padT Prod.fst n [] from rfl,rep_pad Prod.fst n]) ?_
 rintro i _ hi rfl
 by_cases hlt:i < n
 ·obtain ⟨m,hm⟩:∃ m,n = m + 1 + i:=⟨n - 1 - i,by omega⟩
  have em:(n:Int) - 1 - (i:Nat) = (m:Nat):=by omega
  have hmn:m < n:=by omega
  have hmn':(m:Int) < n:=by omega
  have hm0:(0:Int) ≤ m:=by omega
  have en:n - i = m + 1:=by omega
  have e3:IntKind.i64.wrap ((m:Int) - 1) = (n:Int) - 1 - ((i + 1:Nat):Int):=by rw [wrap_id (by omega) (by omega)];omega
  have hTi:(T i).length = i:=by rw [hT];exact tab_len _ _ _ _ _ i
  have hTs:T (i + 1) = (if s.e.toNat ≤ m then (1,1) else cellT (min 41) (min 11) m (T i) s.rl) :: T i:=by rw [hT,tabT,show n - (i + 1) = m by omega]
  have hcap:∀ p ∈ T i,p.1 ≤ 41∧p.2 ≤ 11:=by rw [hT];exact capped _ _ _ _
  rw [em,en,padT_zero rfl,padT_zero rfl]
  have l1:∀ a,(padT Prod.fst m (a :: T i)).length = n:=fun a=>by rw [padT_len,List.length_cons,hTi];omega
  have l2:∀ a,(padT Prod.snd m (a :: T i)).length = n:=fun a=>by rw [padT_len,List.length_cons,hTi];omega
  have s1:∀ a a',((padT Prod.fst m (a :: T i)).map ii).set m (ii (a':Nat × Nat).1) = (padT Prod.fst m (a' :: T i)).map ii:=fun a a'=>by rw [← List.map_set,padT_set]
  have s2:∀ a a',((padT Prod.snd m (a :: T i)).map ii).set m (ii (a':Nat × Nat).2) = (padT Prod.snd m (a' :: T i)).map ii:=fun a a'=>by rw [← List.map_set,padT_set]
  have k1:∀ a,((padT Prod.fst m (a :: T i)).map ii)[m]? = some (ii (a:Nat × Nat).1):=fun a=>by rw [getD_at (by rw [l1];exact hmn),padT_at]
  have k2:∀ a,((padT Prod.snd m (a :: T i)).map ii)[m]? = some (ii (a:Nat × Nat).2):=fun a=>by rw [getD_at (by rw [l2];exact hmn),padT_at]
  obtain ⟨a0,ha0⟩:∃ a0:Nat × Nat,a0 = if s.e.toNat ≤ m then (1,1) else (0,0):=⟨_,rfl⟩
  have ha0c:a0.1 ≤ 41∧a0.2 ≤ 11:=by rw [ha0];split <;> exact ⟨by omega,by omega⟩
  obtain ⟨A,hA⟩:∃ A:Nat→Nat × Nat,A = fun j=>(s.rl.take j).foldl (ruleT (min 41) (min 11) m (T i)) a0:=⟨_,rfl⟩
  have hA0:A 0 = a0:=by rw [hA];rfl
  have hAs:∀ j q,s.rz[j]? = some q→A (j + 1) = ruleT (min 41) (min 11) m (T i) (A j) q.2:=fun j q h=>by
   rw [hA]
   show (s.rl.take (j + 1)).foldl _ _ = _
   rw [List.take_add_one,Sty.rl_get h,List.foldl_append]
   rfl
  have hAc:∀ j,(A j).1 ≤ 41∧(A j).2 ≤ 11:=fun j=>by rw [hA];exact fold_capped _ _ ha0c
  have hAn:T (i + 1) = A s.rz.length :: T i:=by
   rw [hTs,hA]
   show _ = (s.rl.take s.rz.length).foldl _ _ :: _
   rw [List.take_of_length_le (by rw [s.rl_len];omega),ha0]
   split
   ·next hme =>
    rw [fold_skip]
    intro r hr e
    have:=(hP.rr r hr).2.1
    omega
   ·rfl
  have hr10:=hP.r10
  rw [s.rl_len] at hr10
  repeat (with_reducible (first | ((fail_if_success (refine RunQ.seq (x:=.region 5 _ _) ?_));(apply nx)) | apply wQ rfl | ((first | apply wV | apply wW | apply wX | (apply wy cf0_ok;(focus kernel_rfl)));(focus (simp only [Tryz.f80,hm0,ge_iff_le,go_sem];rfl))) | ((fail_if_success (show RunQ _ (.region 5 _ _) _ _));(refine wz cf0_ok ?_)) | (refine wa ?_;refine And.intro ?_ ?_;(focus kernel_rfl))))
  iterate 8 (with_reducible (first | apply nx | apply wQ rfl | ((first | apply wV | apply wW | apply wX | (apply wy cf0_ok;(focus kernel_rfl)));(focus (simp only [Tryz.f80,hm0,go_sem];rfl))) | refine wz cf0_ok ?_ | (refine wa ?_;refine And.intro ?_ ?_;(focus kernel_rfl))))
  refine RunQ.joinT (k0:=3) ⟨[(6,ii m),(5,.ms 2 n),(4,.ms 1 n),(1,.bp 0 0)],111,ssU s (padT Prod.fst m (a0 :: T i)) (padT Prod.snd m (a0 :: T i))⟩ rfl ?_ ?_
  ·by_cases hme:s.e ≤ m
   ·have t1:=s1 (0,0) (1,1)
    have t2:=s2 (0,0) (1,1)
    rw [if_pos (by omega)] at ha0
    subst ha0
    simp only [Int.natCast_one] at t1 t2
    repeat (with_reducible (first | apply nx | apply wQ rfl | ((first | apply wV | apply wW | apply wX | (apply wy cf0_ok;(focus kernel_rfl)));(focus (simp only [Tryz.f80,hme,hm0,hmn,hmn',l1,l2,k1,k2,t1,t2,setElem,ge_iff_le,List.length_map,go_sem];rfl))) | refine wz cf0_ok ?_ | (refine wa ?_;refine And.intro ?_ ?_;(focus kernel_rfl))))
    exact ⟨rfl,Back.keep [6,5,4,1] (by simp only [go_sem])⟩
   ·rw [if_neg (by omega)] at ha0
    subst ha0
    repeat (with_reducible (first | apply nx | apply wQ rfl | ((first | apply wV | apply wW | apply wX | (apply wy cf0_ok;(focus kernel_rfl)));(focus (simp only [Tryz.f80,hme,ge_iff_le,go_sem];rfl))) | refine wz cf0_ok ?_ | (refine wa ?_;refine And.intro ?_ ?_;(focus kernel_rfl))))
    exact ⟨rfl,Back.keep [6,5,4,1] (by simp only [go_sem])⟩
  rw [← hA0]
  repeat (with_reducible (first | apply nx | apply wQ rfl | ((first | apply wV | apply wW | apply wX | (apply wy cf0_ok;(focus kernel_rfl)));(focus (simp only [Tryz.f80,go_sem];rfl))) | refine wz cf0_ok ?_ | (refine wa ?_;refine And.intro ?_ ?_;(focus kernel_rfl))))
  refine RunQ.keep [7,6,5,4,1] (by simp only [go_sem];rfl) ?_
  refine RunQ.loop (fun j s'=>s' = ⟨[(7,ii (j:Nat)),(6,ii m),(5,.ms 2 n),(4,.ms 1 n),(1,.bp 0 0)],111,ssU s (padT Prod.fst m (A j :: T i)) (padT Prod.snd m (A j :: T i))⟩) s.rz.length (by simp only [go_sem]) ?_
  rintro j _ hj rfl
  by_cases hjl:j < s.rz.length
  ·obtain ⟨q,hq⟩:∃ q,s.rz[j]? = some q:=⟨_,List.getElem?_eq_getElem hjl⟩
   have hq':(s.rz.map encRz)[j]? = some (.agg [ii q.2.frm,.sl q.1 (q.2.to.map ii)]):=map_get hq
   have hjl':(j:Int) < s.rz.length:=by omega
   have hqm:q ∈ s.rz:=List.mem_of_getElem? hq
   have hrq:=hP.rr q.2 (List.mem_map.2 ⟨q,hqm,rfl⟩)
   have hzr':s.zr ≠ .n:=fun e=>by rw [zOk_map (Sty.ok_r hok) e] at hjl;simp at hjl
   have hqz:=rzB_at (Sty.ok_z hok) hqm
   have hqn:q.1 ≠ .n:=fun e=>by have:=zOk_map hqz e;rw [this] at hrq;simp at hrq
   have e4:IntKind.i64.wrap ((j:Int) + 1) = ((j + 1:Nat):Int):=wrap_id (by omega) (by omega)
   have hAj:=hAs j q hq
   have hAb:=hAc j
   have hAb1:=hAc (j + 1)
   by_cases hfr:q.2.frm = m
   ·have hfr':(q.2.frm != (m:Int)) = false:=by rw [hfr];simp
    have hgt:∀ x ∈ q.2.to,(m:Int) < x:=fun x hx=>by have:=(hrq.2.2.2.2 x hx).1;omega
    obtain ⟨hR1,hR2⟩:=ruleR_pad (suf:=T i) hAb.1 hfr hgt
    rw [← hAj] at hR1 hR2
    obtain ⟨mm,hmm⟩:∃ mm,mm = padT Prod.fst m (A j :: T i):=⟨_,rfl⟩
    obtain ⟨ll,hll⟩:∃ ll,ll = padT Prod.snd m (A j :: T i):=⟨_,rfl⟩
    have k1:=k1 (A j)
    have k2:=k2 (A j)
    have s1:=s1 (A j) (A (j + 1))
    have s2:=s2 (A j) (A (j + 1))
    have l1:=l1 (A j)
    have l2:=l2 (A j)
    obtain ⟨fM,hfM⟩:∃ fM:Int→Int,fM = fun x=>mm.getD x.toNat 0:=⟨_,rfl⟩
    obtain ⟨fL,hfL⟩:∃ fL:Int→Int,fL = fun x=>ll.getD x.toNat 0:=⟨_,rfl⟩
    have hfMb:∀ x ∈ q.2.to,0 ≤ fM x∧fM x ≤ 41:=fun x hx=>by
     have h1:=padT_get (g:=Prod.fst) rfl m (A j) (T i) x (hgt x hx)
     have h2:=(mot_bd hcap (m + 1) x).1
     rw [hfM,hmm]
     show 0 ≤ (padT Prod.fst m (A j :: T i)).getD x.toNat 0∧(padT Prod.fst m (A j :: T i)).getD x.toNat 0 ≤ 41
     rw [h1];omega
    have hfLb:∀ x ∈ q.2.to,0 ≤ fL x∧fL x ≤ 11:=fun x hx=>by
     have h1:=padT_get (g:=Prod.snd) rfl m (A j) (T i) x (hgt x hx)
     have h2:=(mot_bd hcap (m + 1) x).2
     rw [hfL,hll]
     show 0 ≤ (padT Prod.snd m (A j :: T i)).getD x.toNat 0∧(padT Prod.snd m (A j :: T i)).getD x.toNat 0 ≤ 11
     rw [h1];omega
    rw [← hmm] at k1 s1 l1 hR1 hR2 ⊢
    rw [← hll] at k2 s2 l2 hR2 ⊢
    have hfM':(fun x:Int=>mm.getD x.toNat 0) = fM:=hfM.symm
    have hfL':(fun x:Int=>ll.getD x.toNat 0) = fL:=hfL.symm
    rw [hfM'] at hR1 hR2
    rw [hfL'] at hR2
    have hsb:∀ k,0 ≤ ((q.2.to.take k).map fL).sum∧((q.2.to.take k).map fL).sum ≤ 4 * 11:=fun k=>by
     have h1:=sumI_bd (D:=11) ((q.2.to.take k).map fL) fun y hy=>by
      obtain ⟨x,hx,rfl⟩:=List.mem_map.1 hy
      exact hfLb x (List.mem_of_mem_take hx)
     have h2:((q.2.to.take k).map fL).length ≤ 4:=by rw [List.length_map,List.length_take];omega
     omega
    have hpb:∀ k,0 ≤ prodI 41 ((q.2.to.take k).map fM)∧prodI 41 ((q.2.to.take k).map fM) ≤ 41:=fun k=>prodI_bd fun y hy=>by
     obtain ⟨x,hx,rfl⟩:=List.mem_map.1 hy
     exact (hfMb x (List.mem_of_mem_take hx)).1
    repeat (with_reducible (first | apply nx | apply wQ rfl | ((first | apply wV | apply wW | apply wX | (apply wy cf0_ok;(focus kernel_rfl)));(focus (simp only [Tryz.f80,hq',hjl',hzr',hfr',e4,List.length_map,go_sem];rfl))) | refine wz cf0_ok ?_ | (refine wa ?_;refine And.intro ?_ ?_;(focus kernel_rfl))))
    refine RunQ.keep [11,10,9,8,7,6,5,4,1] (by simp only [go_sem];rfl) ?_
    refine RunQ.loop (fun k s'=>s' = ⟨[(11,ii (k:Nat)),(10,ii ((q.2.to.take k).map fL).sum),(9,ii (prodI 41 ((q.2.to.take k).map fM))),(8,.bp 3 0),(7,ii (j:Nat)),(6,ii m),(5,.ms 2 n),(4,.ms 1 n),(1,.bp 0 0)],111,
     [.var s.cells false,.row false 3 1 (mm.map ii) false,.row false 3 1 (ll.map ii) false,.var [ii q.2.frm,.sl q.1 (q.2.to.map ii)] false]⟩) q.2.to.length (by simp only [go_sem];rfl) ?_
    rintro k _ hk rfl
    by_cases hkl:k < q.2.to.length
    ·obtain ⟨x,hx⟩:∃ x,q.2.to[k]? = some x:=⟨_,List.getElem?_eq_getElem hkl⟩
     have hx':(q.2.to.map ii)[k]? = some (ii x):=map_get hx
     have hkl':(k:Int) < q.2.to.length:=by omega
     have hxm:=List.mem_of_getElem? hx
     have hx0:0 ≤ x:=by have:=hgt x hxm;omega
     have hxn:x < n:=by have:=(hrq.2.2.2.2 x hxm).2;omega
     have hgM:(mm.map ii)[x.toNat]? = some (ii (fM x)):=by rw [hfM];exact getD_at (by omega)
     have hgL:(ll.map ii)[x.toNat]? = some (ii (fL x)):=by rw [hfL];exact getD_at (by omega)
     have e5:IntKind.i64.wrap ((k:Int) + 1) = ((k + 1:Nat):Int):=wrap_id (by omega) (by omega)
     have hst:=sum_take (f:=fL) hx
     have hpt:prodI 41 ((q.2.to.take (k + 1)).map fM) = min 41 (prodI 41 ((q.2.to.take k).map fM) * fM x):=by
      rw [List.map_take,List.map_take]
      exact prodI_take (map_get hx)
     have hsk:=hsb k
     have hsk1:=hsb (k + 1)
     rw [hst] at hsk1
     have hpk:=hpb k
     have hfx:=hfMb x hxm
     rw [min_if] at hpt
     generalize prodI 41 ((q.2.to.take k).map fM) = w at hpk hpt ⊢
     have hm1:=Int.mul_nonneg hpk.1 hfx.1
     have hm2:w * fM x ≤ 41 * 41:=Int.le_trans (Int.mul_le_mul_of_nonneg_right hpk.2 hfx.1) (by omega)
     have e6:IntKind.i64.wrap (((q.2.to.take k).map fL).sum + fL x) = ((q.2.to.take k).map fL).sum + fL x:=wrap_id (by omega) (by omega)
     have e7:IntKind.i64.wrap (w * fM x) = w * fM x:=wrap_id (by omega) (by omega)
     repeat (with_reducible (first | apply nx | apply wQ rfl | ((first | apply wV | apply wW | apply wX | (apply wy cf0_ok;(focus kernel_rfl)));(focus (simp only [Tryz.f80,hx',hkl',hqn,hx0,hxn,hgM,hgL,e5,e6,e7,l1,l2,List.length_map,go_sem];rfl))) | refine wz cf0_ok ?_ | (refine wa ?_;refine And.intro ?_ ?_;(focus kernel_rfl))))
     refine roundQ.t 4 [11,10,9,8,7,6,5,4,1] hkl (by simp only [ltB_rzs,ltB_sns,ltB_is,ltB_sl,go_sem]) (by rw [hst,hpt];simp only [go_sem])
    ·have hkl':¬ (k:Int) < q.2.to.length:=by omega
     obtain rfl:k = q.2.to.length:=by omega
     have hsk:=hsb q.2.to.length
     have hpk:=hpb q.2.to.length
     rw [List.take_length] at hsk hpk ⊢
     generalize prodI 41 (q.2.to.map fM) = w at hpk hR1 hR2 ⊢
     generalize (q.2.to.map fL).sum = sL at hsk hR2 ⊢
     rw [min_if] at hR1
     have e7:IntKind.i64.wrap (((A j).1:Int) + w) = ((A j).1:Int) + w:=wrap_id (by omega) (by omega)
     by_cases hw:0 < w
     ·rw [if_pos hw,min_if,max_if] at hR2
      rw [hR1] at s1
      rw [hR2] at s2
      repeat (with_reducible (first | apply nx | apply wQ rfl | ((first | apply wV | apply wW | apply wX | (apply wy cf0_ok;(focus kernel_rfl)));(focus (simp only [Tryz.f80,hkl',hm0,hmn,hmn',hw,k1,k2,s1,s2,setElem,e4,e7,l1,l2,gt_iff_lt,List.length_map,go_sem];rfl))) | refine wz cf0_ok ?_ | (refine wa ?_;refine And.intro ?_ ?_;(focus kernel_rfl))))
      refine roundQ.t 3 [7,6,5,4,1] hjl (by simp only [ltB_rzs,ltB_sns,ltB_is,ltB_sl,go_sem]) (by simp only [go_sem])
     ·rw [if_neg hw] at hR2
      have hll2:padT Prod.snd m (A (j + 1) :: T i) = ll:=by
       rw [hll]
       have e:(A (j + 1)).2 = (A j).2:=by omega
       unfold padT
       rw [List.map_cons,List.map_cons,e]
      rw [hR1] at s1
      repeat (with_reducible (first | apply nx | apply wQ rfl | ((first | apply wV | apply wW | apply wX | (apply wy cf0_ok;(focus kernel_rfl)));(focus (simp only [Tryz.f80,hkl',hm0,hmn,hmn',hw,k1,k2,s1,setElem,e4,e7,l1,l2,gt_iff_lt,List.length_map,go_sem];rfl))) | refine wz cf0_ok ?_ | (refine wa ?_;refine And.intro ?_ ?_;(focus kernel_rfl))))
      refine roundQ.t 3 [7,6,5,4,1] hjl (by simp only [ltB_rzs,ltB_sns,ltB_is,ltB_sl,go_sem]) (by rw [hll2];simp only [go_sem])
   ·have hfr':(q.2.frm != (m:Int)) = true:=bne_true hfr
    have hAe:A (j + 1) = A j:=by rw [hAj,ruleT,if_neg (fun h=>hfr h.1)]
    repeat (with_reducible (first | apply nx | apply wQ rfl | ((first | apply wV | apply wW | apply wX | (apply wy cf0_ok;(focus kernel_rfl)));(focus (simp only [Tryz.f80,hq',hjl',hzr',hfr',e4,List.length_map,go_sem];rfl))) | refine wz cf0_ok ?_ | (refine wa ?_;refine And.intro ?_ ?_;(focus kernel_rfl))))
    refine roundQ.t 3 [7,6,5,4,1] hjl (by simp only [ltB_rzs,ltB_sns,ltB_is,ltB_sl,go_sem]) (by rw [hAe];simp only [go_sem])
  ·have hjl':¬ (j:Int) < s.rz.length:=by omega
   obtain rfl:j = s.rz.length:=by omega
   repeat (with_reducible (first | apply nx | apply wQ rfl | ((first | apply wV | apply wW | apply wX | (apply wy cf0_ok;(focus kernel_rfl)));(focus (simp only [Tryz.f80,hjl',e3,List.length_map,go_sem];rfl))) | refine wz cf0_ok ?_ | (refine wa ?_;refine And.intro ?_ ?_;(focus kernel_rfl))))
   refine roundQ.k [6,5,4,1] hlt (by simp only [go_sem];rfl) ?_
   rw [hAn,show n - (i + 1) = m by omega]
 ·obtain rfl:i = n:=by omega
  have hge:¬ (0:Int) ≤ (i:Int) - 1 - (i:Nat):=by omega
  have l1:(padT Prod.fst 0 (T i)).length = i:=by rw [padT_len,hT,tab_len];omega
  have l2:(padT Prod.snd 0 (T i)).length = i:=by rw [padT_len,hT,tab_len];omega
  rw [Nat.sub_self]
  repeat (with_reducible (first | apply nx | apply wQ rfl | ((first | apply wV | apply wW | apply wX | (apply wy cf0_ok;(focus kernel_rfl)));(focus (simp only [Tryz.f80,hge,ge_iff_le,List.length_map,go_sem];rfl))) | refine wz cf0_ok ?_ | (refine wa ?_;refine And.intro ?_ ?_;(focus kernel_rfl))))
  refine ⟨rfl,rfl,.tuple [.ms 1 i,.ms 2 i],rfl,?_⟩
  rw [leave_tupR (es1:=(padT Prod.fst 0 (T i)).map ii) (es2:=(padT Prod.snd 0 (T i)).map ii) rfl rfl (by rw [List.length_map,l1]) (by rw [List.length_map,l2]) (closedL_is _) (closedL_is _)]
  rw [hrab]
  rfl
end Go.Pv
namespace Go.Pv
open Go Go.RowKit Go.Proofs
set_option maxRecDepth 200000
set_option maxHeartbeats 8000000
def c80:List PV→List Box→Option (PRes × List Box)
 | [v],sg=>match decSt v with
  | some s=>if s.parts = true then some (.ret (.tuple [.sl .a (s.rm.map ii),.sl .a (s.rn.map ii)]),sg) else none
  | none=>none
 | _,_=>none
theorem c80_ok:ConOk Tryz.prog 80 c80:=ConOk.of0 (ent Tryz.func80 rfl) fun args sg r sg' h=>by
 unfold c80 at h
 split at h <;> try (cases h;done)
 split at h <;> try (cases h;done)
 rename_i s h1
 split at h <;> cases h
 rename_i hp
 obtain ⟨rfl,hok⟩:=decSt_inv h1
 exact ⟨_,rfl,rfl,by rw [ltBL_cons,ltB_st];rfl,ways_80 s hok (Sty.parts_ok hp)⟩
def cfS:CallF:=cfAdd (cfAdd (cfAdd cfU 78 c78) 79 c79) 80 c80
theorem cfS_ok:CallFOk Tryz.prog cfS:=cfAdd_ok (cfAdd_ok (cfAdd_ok cfU_ok c78_ok) c79_ok) c80_ok
theorem Story_20 (s:Sty) (hok:s.ok = true):CallOk Tryz.prog 20 [.agg s.cells] [] (.ret (.bool s.story)) []:=by
 refine CallOk.of0 hTT Tryz.func20 rfl rfl ?_
 have hd:=decSt_cells s hok
 have h1:=closedL_sns s.sc
 have h2:=closedL_rzs s.rz
 have hst:s.story = (s.parts && (let t:=((trueT s.e.toNat (s.e.toNat + s.sc.length) s.rl).getD 0 (0,0));decide (t.1 ≤ 40) && decide (t.2 ≤ 10))):=rfl
 have hpt:s.parts = (inB s.e 1 6 && inB s.sc.length 1 8 && inB s.rz.length 1 10 && s.sc.all snB && s.rl.all (rlB s.e (s.e + s.sc.length))):=by
  unfold Sty.parts partsB
  rw [s.rl_len]
 cases a1:inB s.e 1 6
 ·rw [a1] at hpt
  repeat (with_reducible (first | apply nx | apply wQ rfl | ((first | apply wV | apply wW | apply wX | (apply wy cfS_ok;(focus kernel_rfl)));(focus (simp only [Tryz.f20,cfS,cfU,cin,a1,go_sem];rfl))) | refine wz cfS_ok ?_ | (refine wa ?_;refine And.intro ?_ ?_;(focus kernel_rfl))))
  refine ⟨rfl,rfl,_,rfl,?_⟩
  rw [hst,hpt];rfl
 cases a2:inB s.sc.length 1 8
 ·rw [a1,a2] at hpt
  repeat (with_reducible (first | apply nx | apply wQ rfl | ((first | apply wV | apply wW | apply wX | (apply wy cfS_ok;(focus kernel_rfl)));(focus (simp only [Tryz.f20,cfS,cfU,cin,a1,a2,List.length_map,go_sem];rfl))) | refine wz cfS_ok ?_ | (refine wa ?_;refine And.intro ?_ ?_;(focus kernel_rfl))))
  refine ⟨rfl,rfl,_,rfl,?_⟩
  rw [hst,hpt];rfl
 cases a3:inB s.rz.length 1 10
 ·rw [a1,a2,a3] at hpt
  repeat (with_reducible (first | apply nx | apply wQ rfl | ((first | apply wV | apply wW | apply wX | (apply wy cfS_ok;(focus kernel_rfl)));(focus (simp only [Tryz.f20,cfS,cfU,cin,a1,a2,a3,List.length_map,go_sem];rfl))) | refine wz cfS_ok ?_ | (refine wa ?_;refine And.intro ?_ ?_;(focus kernel_rfl))))
  refine ⟨rfl,rfl,_,rfl,?_⟩
  rw [hst,hpt];rfl
 have b1:=inB_iff.1 a1
 have b2:=inB_iff.1 a2
 have b3:=inB_iff.1 a3
 rw [a1,a2,a3] at hpt
 simp only [Bool.true_and] at hpt
 repeat (with_reducible (first | apply nx | apply wQ rfl | ((first | apply wV | apply wW | apply wX | (apply wy cfS_ok;(focus kernel_rfl)));(focus (simp only [Tryz.f20,cfS,cfU,cin,a1,a2,a3,List.length_map,go_sem];rfl))) | refine wz cfS_ok ?_ | (refine wa ?_;refine And.intro ?_ ?_;(focus kernel_rfl))))
 refine RunQ.keep [3,2,1] (by simp only [go_sem];rfl) ?_
 refine RunQ.loop (fun i s'=>s.sc.all snB = (s.sc.drop i).all snB∧s' = ⟨[(3,ii (i:Nat)),(2,.bool false),(1,.bp 0 0)],69,[.var s.cells false]⟩) s.sc.length ⟨rfl,by simp only [go_sem]⟩ ?_
 rintro i _ hi ⟨hm,rfl⟩
 by_cases hlt:i < s.sc.length
 ·obtain ⟨x,hx⟩:∃ x,s.sc[i]? = some x:=⟨_,List.getElem?_eq_getElem hlt⟩
  have hx':(s.sc.map encSn)[i]? = some (.agg [ii x.part,ii x.least,ii x.most,.bool x.loose,.bool x.formula]):=map_get hx
  have hlt':(i:Int) < s.sc.length:=by omega
  have hz':s.zs ≠ .n:=fun e=>by have:=zOk_map (Sty.ok_s hok) e;rw [this] at hlt;simp at hlt
  have e4:IntKind.i64.wrap ((i:Int) + 1) = ((i + 1:Nat):Int):=wrap_id (by omega) (by omega)
  have hdx:decSn (.agg [ii x.part,ii x.least,ii x.most,.bool x.loose,.bool x.formula]) = some x:=rfl
  rw [all_step hx] at hm
  cases hb:snB x
  ·rw [hb] at hm
   repeat (with_reducible (first | apply nx | apply wQ rfl | ((first | apply wV | apply wW | apply wX | (apply wy cfS_ok;(focus kernel_rfl)));(focus (simp only [Tryz.f20,cfS,cfU,c78,hx',hlt',hz',hdx,hb,List.length_map,go_sem];rfl))) | refine wz cfS_ok ?_ | (refine wa ?_;refine And.intro ?_ ?_;(focus kernel_rfl))))
   refine ⟨rfl,rfl,_,rfl,?_⟩
   rw [hst,hpt,hm];rfl
  ·rw [hb] at hm
   repeat (with_reducible (first | apply nx | apply wQ rfl | ((first | apply wV | apply wW | apply wX | (apply wy cfS_ok;(focus kernel_rfl)));(focus (simp only [Tryz.f20,cfS,cfU,c78,hx',hlt',hz',hdx,hb,e4,List.length_map,go_sem];rfl))) | refine wz cfS_ok ?_ | (refine wa ?_;refine And.intro ?_ ?_;(focus kernel_rfl))))
   refine roundQ.t 1 [3,2,1] hlt (by simp only [ltB_sns,ltB_rzs,ltB_is,ltB_sl,go_sem]) ⟨hm,by simp only [go_sem]⟩
 have hlt':¬ (i:Int) < s.sc.length:=by omega
 rw [List.drop_eq_nil_of_le (by omega)] at hm
 have hm:s.sc.all snB = true:=hm
 rw [hm,Bool.true_and] at hpt
 clear hm
 repeat (with_reducible (first | apply nx | apply wQ rfl | ((first | apply wV | apply wW | apply wX | (apply wy cf0_ok;(focus kernel_rfl)));(focus (simp only [Tryz.f20,hlt',List.length_map,go_sem];rfl))) | refine wz cf0_ok ?_ | (refine wa ?_;refine And.intro ?_ ?_;(focus kernel_rfl))))
 refine RunQ.keep [4,2,1] (by simp only [go_sem];rfl) ?_
 refine RunQ.loop (fun i s'=>s.rl.all (rlB s.e (s.e + s.sc.length)) = (s.rl.drop i).all (rlB s.e (s.e + s.sc.length))∧s' = ⟨[(4,ii (i:Nat)),(2,.bool false),(1,.bp 0 0)],69,[.var s.cells false]⟩) s.rz.length ⟨rfl,by simp only [go_sem]⟩ ?_
 clear hlt' hlt hi
 rintro i _ hi ⟨hm,rfl⟩
 by_cases hlt:i < s.rz.length
 ·obtain ⟨q,hq⟩:∃ q,s.rz[i]? = some q:=⟨_,List.getElem?_eq_getElem hlt⟩
  have hq':(s.rz.map encRz)[i]? = some (.agg [ii q.2.frm,.sl q.1 (q.2.to.map ii)]):=map_get hq
  have hlt':(i:Int) < s.rz.length:=by omega
  have hz':s.zr ≠ .n:=fun e=>by have:=zOk_map (Sty.ok_r hok) e;rw [this] at hlt;simp at hlt
  have hqz:=rzB_at (Sty.ok_z hok) (List.mem_of_getElem? hq)
  have e4:IntKind.i64.wrap ((i:Int) + 1) = ((i + 1:Nat):Int):=wrap_id (by omega) (by omega)
  have hdq:decRz (.agg [ii q.2.frm,.sl q.1 (q.2.to.map ii)]) = some q:=decRz_enc q
  have hcq:=closedL_is q.2.to
  have k2:s.sc.length ≤ 1000:=by omega
  rw [all_step (Sty.rl_get hq)] at hm
  cases hb:rlB s.e (s.e + s.sc.length) q.2
  ·rw [hb] at hm
   repeat (with_reducible (first | apply nx | apply wQ rfl | ((first | apply wV | apply wW | apply wX | (apply wy cfS_ok;(focus kernel_rfl)));(focus (simp only [Tryz.f20,cfS,cfU,c79,hd,h1,h2,b1,k2,hqz,hcq,hq',hlt',hz',hdq,hb,List.length_map,go_sem];rfl))) | refine wz cfS_ok ?_ | (refine wa ?_;refine And.intro ?_ ?_;(focus kernel_rfl))))
   refine ⟨rfl,rfl,_,rfl,?_⟩
   rw [hst,hpt,hm];rfl
  ·rw [hb] at hm
   repeat (with_reducible (first | apply nx | apply wQ rfl | ((first | apply wV | apply wW | apply wX | (apply wy cfS_ok;(focus kernel_rfl)));(focus (simp only [Tryz.f20,cfS,cfU,c79,hd,h1,h2,b1,k2,hqz,hcq,hq',hlt',hz',hdq,hb,e4,List.length_map,go_sem];rfl))) | refine wz cfS_ok ?_ | (refine wa ?_;refine And.intro ?_ ?_;(focus kernel_rfl))))
   refine roundQ.t 1 [4,2,1] hlt (by simp only [ltB_sns,ltB_rzs,ltB_is,ltB_sl,go_sem]) ⟨hm,by simp only [go_sem]⟩
 have hlt':¬ (i:Int) < s.rz.length:=by omega
 rw [List.drop_eq_nil_of_le (by rw [s.rl_len];omega)] at hm
 have hm:s.rl.all (rlB s.e (s.e + s.sc.length)) = true:=hm
 rw [hm] at hpt
 have hP:=Sty.parts_ok hpt
 obtain ⟨p,l,q1,q2,q3⟩:=rab_first s hP
 have hrm:s.rm.map ii = ii p.1 :: (l.map fun p=>(p.1:Int)).map ii:=by unfold Sty.rm;rw [q1];rfl
 have hrn:s.rn.map ii = ii p.2 :: (l.map fun p=>(p.2:Int)).map ii:=by unfold Sty.rn;rw [q1];rfl
 have hrm':(s.rm.map ii)[0]? = some (ii p.1):=by rw [hrm];rfl
 have hrn':(s.rn.map ii)[0]? = some (ii p.2):=by rw [hrn];rfl
 have hnum:1 ≤ s.num:=by unfold Sty.num;omega
 have hl1:(0:Int) < (s.rm.length:Int):=by rw [s.rm_len];omega
 have hl2:(0:Int) < (s.rn.length:Int):=by rw [s.rn_len];omega
 have ez:(Z.a = Z.n) = False:=by simp
 have h3:=closedL_is s.rm
 have h4:=closedL_is s.rn
 have hmm:(manyM s.e s.num s.rl 0) = (trueT s.e.toNat (s.e.toNat + s.sc.length) s.rl).getD 0 (0,0):=rfl
 rw [hst,hpt,← hmm]
 simp only [Bool.true_and]
 by_cases c1:p.1 ≤ 40
 ·have c1':(p.1:Int) ≤ 40:=by omega
  repeat (with_reducible (first | apply nx | apply wQ rfl | ((first | apply wV | apply wW | apply wX | (apply wy cfS_ok;(focus kernel_rfl)));(focus (simp only [Tryz.f20,cfS,c80,hd,hpt,h1,h2,h3,h4,hlt',hrm',hrn',hl1,hl2,ez,c1',List.length_map,go_sem];rfl))) | refine wz cfS_ok ?_ | (refine wa ?_;refine And.intro ?_ ?_;(focus kernel_rfl))))
  refine ⟨rfl,rfl,_,rfl,?_⟩
  rw [decide_eq_true (show (manyM s.e s.num s.rl 0).1 ≤ 40 by omega),Bool.true_and,show decide ((manyM s.e s.num s.rl 0).2 ≤ 10) = decide ((p.2:Int) ≤ 10) by rw [decide_eq_decide];omega]
  rfl
 ·have c1':¬ (p.1:Int) ≤ 40:=by omega
  repeat (with_reducible (first | apply nx | apply wQ rfl | ((first | apply wV | apply wW | apply wX | (apply wy cfS_ok;(focus kernel_rfl)));(focus (simp only [Tryz.f20,cfS,c80,hd,hpt,h1,h2,h3,h4,hlt',hrm',hrn',hl1,hl2,ez,c1',List.length_map,go_sem];rfl))) | refine wz cfS_ok ?_ | (refine wa ?_;refine And.intro ?_ ?_;(focus kernel_rfl))))
  refine ⟨rfl,rfl,_,rfl,?_⟩
  rw [decide_eq_false (show ¬ (manyM s.e s.num s.rl 0).1 ≤ 40 by omega)]
  rfl
def c20:List PV→List Box→Option (PRes × List Box)
 | [v],sg=>match decSt v with
  | some s=>some (.ret (.bool s.story),sg)
  | none=>none
 | _,_=>none
theorem c20_ok:ConOk Tryz.prog 20 c20:=ConOk.of0 (ent Tryz.func20 rfl) fun args sg r sg' h=>by
 unfold c20 at h
 split at h <;> try (cases h;done)
 split at h <;> cases h
 rename_i s h1
 obtain ⟨rfl,hok⟩:=decSt_inv h1
 exact ⟨_,rfl,rfl,by rw [ltBL_cons,ltB_st];rfl,Story_20 s hok⟩
end Go.Pv
