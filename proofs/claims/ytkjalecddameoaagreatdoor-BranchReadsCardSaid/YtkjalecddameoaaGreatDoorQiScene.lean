/- Contracts: scenes, rules, lists of scenes as defined, the reference's. -/
import Derived.Test.YtkjalecddameoaaGreatDoorQgTell
import Derived.Test.YtkjalecddameoaaGreatDoorQgEnds
import Derived.Test.YtkjalecddameoaaGreatDoorQgStory
set_option linter.all false
namespace Go.Pv
open Go Go.RowKit Go.Proofs
set_option maxRecDepth 200000
set_option maxHeartbeats 8000000
def cfU:CallF:=cfAdd cf0 77 cin
theorem cfU_ok:CallFOk Tryz.prog cfU:=cfAdd_ok cf0_ok cin77_ok
theorem scene_78 (x:Sn):CallOk Tryz.prog 78 [encSn x] [] (.ret (.bool (snB x))) []:=by
 refine CallOk.of0 hTT Tryz.func78 rfl rfl ?_
 unfold encSn snB
 cases a1:inB x.part 0 2
 ·repeat (with_reducible (first | apply nx | apply wQ rfl | ((first | apply wV | apply wW | apply wX | (apply wy cfU_ok;(focus kernel_rfl)));(focus (simp only [Tryz.f78,cfU,cin,a1,go_sem];rfl))) | refine wz cfU_ok ?_ | (refine wa ?_;refine And.intro ?_ ?_;(focus kernel_rfl))))
  exact ⟨rfl,rfl,_,rfl,rfl⟩
 cases a2:inB x.least 1 240
 ·repeat (with_reducible (first | apply nx | apply wQ rfl | ((first | apply wV | apply wW | apply wX | (apply wy cfU_ok;(focus kernel_rfl)));(focus (simp only [Tryz.f78,cfU,cin,a1,a2,go_sem];rfl))) | refine wz cfU_ok ?_ | (refine wa ?_;refine And.intro ?_ ?_;(focus kernel_rfl))))
  exact ⟨rfl,rfl,_,rfl,rfl⟩
 cases a3:inB x.most x.least 240
 ·repeat (with_reducible (first | apply nx | apply wQ rfl | ((first | apply wV | apply wW | apply wX | (apply wy cfU_ok;(focus kernel_rfl)));(focus (simp only [Tryz.f78,cfU,cin,a1,a2,a3,go_sem];rfl))) | refine wz cfU_ok ?_ | (refine wa ?_;refine And.intro ?_ ?_;(focus kernel_rfl))))
  exact ⟨rfl,rfl,_,rfl,rfl⟩
 ·repeat (with_reducible (first | apply nx | apply wQ rfl | ((first | apply wV | apply wW | apply wX | (apply wy cfU_ok;(focus kernel_rfl)));(focus (simp only [Tryz.f78,cfU,cin,a1,a2,a3,go_sem];rfl))) | refine wz cfU_ok ?_ | (refine wa ?_;refine And.intro ?_ ?_;(focus kernel_rfl))))
  exact ⟨rfl,rfl,_,rfl,rfl⟩
def c78:List PV→List Box→Option (PRes × List Box)
 | [v],sg=>match decSn v with
  | some x=>some (.ret (.bool (snB x)),sg)
  | none=>none
 | _,_=>none
theorem c78_ok:ConOk Tryz.prog 78 c78:=ConOk.of0 (ent Tryz.func78 rfl) fun args sg r sg' h=>by
 unfold c78 at h
 split at h <;> try (cases h;done)
 split at h <;> cases h
 rename_i x h1
 obtain rfl:=decSn_inv _ _ h1
 exact ⟨_,rfl,rfl,rfl,scene_78 x⟩
theorem all_step {α:Type} {p:α→Bool} {l:List α} {i:Nat} {x:α} (h:l[i]? = some x):(l.drop i).all p = (p x && (l.drop (i + 1)).all p):=by rw [drop_get h];rfl
theorem rule_79 (s:Sty) (q:Rz) (hz:zOk q.1 (q.2.to.map ii) = true) (he:1 ≤ s.e∧s.e ≤ 6) (hs:s.sc.length ≤ 1000):CallOk Tryz.prog 79 [.agg s.cells,encRz q] [] (.ret (.bool (rlB s.e (s.e + s.sc.length) q.2))) []:=by
 refine CallOk.of0 hTT Tryz.func79 rfl rfl ?_
 have e1:IntKind.i64.wrap (s.e - 1) = s.e - 1:=wrap_id (by omega) (by omega)
 have h1:=closedL_sns s.sc
 have h2:=closedL_rzs s.rz
 have h3:=closedL_is q.2.to
 unfold encRz rlB
 cases a1:inB q.2.frm 0 (s.e - 1)
 ·repeat (with_reducible (first | apply nx | apply wQ rfl | ((first | apply wV | apply wW | apply wX | (apply wy cfU_ok;(focus kernel_rfl)));(focus (simp only [Tryz.f79,cfU,cin,a1,e1,go_sem];rfl))) | refine wz cfU_ok ?_ | (refine wa ?_;refine And.intro ?_ ?_;(focus kernel_rfl))))
  exact ⟨rfl,rfl,_,rfl,rfl⟩
 cases a2:inB q.2.to.length 1 4
 ·repeat (with_reducible (first | apply nx | apply wQ rfl | ((first | apply wV | apply wW | apply wX | (apply wy cfU_ok;(focus kernel_rfl)));(focus (simp only [Tryz.f79,cfU,cin,a1,a2,e1,List.length_map,go_sem];rfl))) | refine wz cfU_ok ?_ | (refine wa ?_;refine And.intro ?_ ?_;(focus kernel_rfl))))
  exact ⟨rfl,rfl,_,rfl,rfl⟩
 have b1:0 ≤ q.2.frm∧q.2.frm ≤ s.e - 1:=inB_iff.1 a1
 have b2:q.2.to.length ≤ 4:=by have:=inB_iff.1 a2;omega
 repeat (with_reducible (first | apply nx | apply wQ rfl | ((first | apply wV | apply wW | apply wX | (apply wy cfU_ok;(focus kernel_rfl)));(focus (simp only [Tryz.f79,cfU,cin,a1,a2,e1,List.length_map,go_sem];rfl))) | refine wz cfU_ok ?_ | (refine wa ?_;refine And.intro ?_ ?_;(focus kernel_rfl))))
 refine RunQ.keep [5,4,3,2] (by simp only [go_sem];rfl) ?_
 obtain ⟨p,hp⟩:∃ p:Int→Bool,p = fun x=>inB x (q.2.frm + 1) (s.e + s.sc.length - 1):=⟨_,rfl⟩
 have hp':∀ x,inB x (q.2.frm + 1) (s.e + s.sc.length - 1) = p x:=fun x=>by rw [hp]
 simp only [hp',Bool.true_and]
 refine RunQ.loop (fun i s'=>q.2.to.all p = (q.2.to.drop i).all p∧s' = ⟨[(5,ii (i:Nat)),(4,.bool false),(3,.bp 1 0),(2,.bp 0 0)],44,[.var s.cells false,.var [ii q.2.frm,.sl q.1 (q.2.to.map ii)] false]⟩) q.2.to.length ⟨rfl,by simp only [go_sem]⟩ ?_
 rintro i _ hi ⟨hm,rfl⟩
 by_cases hlt:i < q.2.to.length
 ·obtain ⟨x,hx⟩:∃ x,q.2.to[i]? = some x:=⟨_,List.getElem?_eq_getElem hlt⟩
  have hx':(q.2.to.map ii)[i]? = some (ii x):=map_get hx
  have hlt':(i:Int) < q.2.to.length:=by omega
  have hz':q.1 ≠ .n:=fun e=>by have:=zOk_map hz e;rw [this] at hlt;simp at hlt
  have e4:IntKind.i64.wrap ((i:Int) + 1) = ((i + 1:Nat):Int):=wrap_id (by omega) (by omega)
  have e5:IntKind.i64.wrap (q.2.frm + 1) = q.2.frm + 1:=wrap_id (by omega) (by omega)
  have e6:IntKind.i64.wrap (s.e + s.sc.length) = s.e + s.sc.length:=wrap_id (by omega) (by omega)
  have e7:IntKind.i64.wrap (s.e + s.sc.length - 1) = s.e + s.sc.length - 1:=wrap_id (by omega) (by omega)
  have hpx:=hp' x
  cases hb:p x
  ·rw [hb] at hpx
   repeat (with_reducible (first | apply nx | apply wQ rfl | ((first | apply wV | apply wW | apply wX | (apply wy cfU_ok;(focus kernel_rfl)));(focus (simp only [Tryz.f79,cfU,cin,hx',hlt',hz',e4,e5,e6,e7,hpx,List.length_map,go_sem];rfl))) | refine wz cfU_ok ?_ | (refine wa ?_;refine And.intro ?_ ?_;(focus kernel_rfl))))
   refine ⟨rfl,rfl,_,rfl,?_⟩
   rw [hm,all_step hx,hb];rfl
  ·rw [hb] at hpx
   repeat (with_reducible (first | apply nx | apply wQ rfl | ((first | apply wV | apply wW | apply wX | (apply wy cfU_ok;(focus kernel_rfl)));(focus (simp only [Tryz.f79,cfU,cin,hx',hlt',hz',e4,e5,e6,e7,hpx,List.length_map,go_sem];rfl))) | refine wz cfU_ok ?_ | (refine wa ?_;refine And.intro ?_ ?_;(focus kernel_rfl))))
   refine roundQ.t 2 [5,4,3,2] hlt (by simp only [ltB_sns,ltB_rzs,ltB_is,ltB_sl,go_sem]) ⟨by rw [hm,all_step hx,hb];rfl,by simp only [go_sem]⟩
 ·have hlt':¬ (i:Int) < q.2.to.length:=by omega
  repeat (with_reducible (first | apply nx | apply wQ rfl | ((first | apply wV | apply wW | apply wX | (apply wy cfU_ok;(focus kernel_rfl)));(focus (simp only [Tryz.f79,hlt',List.length_map,go_sem];rfl))) | refine wz cfU_ok ?_ | (refine wa ?_;refine And.intro ?_ ?_;(focus kernel_rfl))))
  refine ⟨rfl,rfl,_,rfl,?_⟩
  rw [hm,List.drop_eq_nil_of_le (by omega)];rfl
def c79:List PV→List Box→Option (PRes × List Box)
 | [v,w],sg=>match decSt v,decRz w with
  | some s,some q=>if (1 ≤ s.e∧s.e ≤ 6)∧s.sc.length ≤ 1000∧zOk q.1 (q.2.to.map ii) = true then some (.ret (.bool (rlB s.e (s.e + s.sc.length) q.2)),sg) else none
  | _,_=>none
 | _,_=>none
theorem c79_ok:ConOk Tryz.prog 79 c79:=ConOk.of0 (ent Tryz.func79 rfl) fun args sg r sg' h=>by
 unfold c79 at h
 split at h <;> try (cases h;done)
 split at h <;> try (cases h;done)
 rename_i s q h1 h2
 split at h <;> cases h
 rename_i hc
 obtain ⟨rfl,hok⟩:=decSt_inv h1
 obtain rfl:=decRz_inv _ _ h2
 exact ⟨_,rfl,rfl,by rw [ltBL_cons,ltB_st,ltBL_cons,ltB_rz];rfl,rule_79 s q hc.2.2 hc.1 hc.2.1⟩
end Go.Pv
namespace Go.Pv
open Go Go.RowKit Go.Proofs
def prodI (k:Int) (l:List Int):Int:=l.foldl (fun n x=>min k (n * x)) 1
theorem prodI_take {k:Int} {l:List Int} {i:Nat} {x:Int} (h:l[i]? = some x):prodI k (l.take (i + 1)) = min k (prodI k (l.take i) * x):=by
 unfold prodI
 rw [List.take_add_one,h,List.foldl_append];rfl
theorem prodI_bd {l:List Int} (h:∀ x ∈ l,0 ≤ x):0 ≤ prodI 41 l∧prodI 41 l ≤ 41:=by
 have key:∀ (l:List Int) (n:Int),(∀ x ∈ l,0 ≤ x)→0 ≤ n→n ≤ 41→0 ≤ l.foldl (fun n x=>min 41 (n * x)) n∧l.foldl (fun n x=>min 41 (n * x)) n ≤ 41:=by
  intro l
  induction l with
  | nil=>intro n _ h0 h1;exact ⟨h0,h1⟩
  | cons a l ih =>
   intro n hl h0 h1
   have:=Int.mul_nonneg h0 (hl a List.mem_cons_self)
   exact ih (min 41 (n * a)) (fun x hx=>hl x (List.mem_cons_of_mem _ hx)) (by omega) (by omega)
 exact key l 1 h (by omega) (by omega)
theorem prodI_cast (l:List Nat):prodI 41 (l.map fun (n:Nat)=>(n:Int)) = (prodC (min 41) l:Nat):=by
 have key:∀ (l:List Nat) (n:Nat),(l.map fun (n:Nat)=>(n:Int)).foldl (fun n x=>min 41 (n * x)) (n:Int) = ((l.foldl (fun n x=>min 41 (n * x)) n:Nat):Int):=by
  intro l
  induction l with
  | nil=>intro n;rfl
  | cons x l ih =>
   intro n
   rw [List.map_cons,List.foldl_cons,List.foldl_cons]
   have:min 41 ((n:Int) * (x:Int)) = ((min 41 (n * x):Nat):Int):=by
    rw [← Int.natCast_mul];omega
   rw [this]
   exact ih _
 exact key l 1
theorem prodC_ne (l:List Nat):prodC (min 41) l ≠ 0↔∀ x ∈ l,x ≠ 0:=by
 have key:∀ (l:List Nat) (n:Nat),l.foldl (fun n x=>min 41 (n * x)) n ≠ 0↔n ≠ 0∧∀ x ∈ l,x ≠ 0:=by
  intro l
  induction l with
  | nil=>intro n;simp
  | cons x l ih =>
   intro n
   rw [List.foldl_cons,ih]
   constructor
   ·rintro ⟨h1,h2⟩
    have h3:n * x ≠ 0:=fun e=>by rw [e] at h1;omega
    rw [Nat.mul_ne_zero_iff] at h3
    refine ⟨h3.1,fun y hy=>?_⟩
    rcases List.mem_cons.1 hy with rfl | hy
    ·exact h3.2
    ·exact h2 y hy
   ·rintro ⟨h1,h2⟩
    have h3:=h2 x List.mem_cons_self
    have h4:n * x ≠ 0:=Nat.mul_ne_zero_iff.2 ⟨h1,h3⟩
    exact ⟨by omega,fun y hy=>h2 y (List.mem_cons_of_mem _ hy)⟩
 have:=key l 1
 unfold prodC
 rw [this]
 simp
theorem capped (e n:Nat) (rl:List Rl) (i:Nat):∀ p ∈ tabT (min 41) (min 11) e n rl i,p.1 ≤ 41∧p.2 ≤ 11:=fun p hp=>by
 rw [tab_cap (cap_min 41 (by omega)) (cap_min 11 (by omega))] at hp
 obtain ⟨q,_,rfl⟩:=List.mem_map.1 hp
 exact ⟨Nat.min_le_left _ _,Nat.min_le_left _ _⟩
theorem ruleT_capped {m:Nat} {suf:List (Nat × Nat)} {a:Nat × Nat} {r:Rl} (ha:a.1 ≤ 41∧a.2 ≤ 11):(ruleT (min 41) (min 11) m suf a r).1 ≤ 41∧(ruleT (min 41) (min 11) m suf a r).2 ≤ 11:=by
 unfold ruleT
 split
 ·refine ⟨Nat.min_le_left _ _,?_⟩
  have:=Nat.min_le_left 11 ((r.to.map fun x=>(motT suf (m + 1) x).2).sum)
  simp only
  omega
 ·exact ha
theorem fold_capped {m:Nat} {suf:List (Nat × Nat)}:∀ (rl:List Rl) (a:Nat × Nat),a.1 ≤ 41∧a.2 ≤ 11→(rl.foldl (ruleT (min 41) (min 11) m suf) a).1 ≤ 41∧(rl.foldl (ruleT (min 41) (min 11) m suf) a).2 ≤ 11
 | [],_,h=>h
 | r :: rl,a,h=>fold_capped rl _ (ruleT_capped h)
theorem fold_skip {c f:Nat→Nat} {m:Nat} {suf:List (Nat × Nat)}:∀ (rl:List Rl) (a:Nat × Nat),(∀ r ∈ rl,r.frm ≠ m)→rl.foldl (ruleT c f m suf) a = a
 | [],_,_=>rfl
 | r :: rl,a,h=>by
  rw [List.foldl_cons]
  have:ruleT c f m suf a r = a:=if_neg fun k=>h r List.mem_cons_self k.1
  rw [this]
  exact fold_skip rl a fun x hx=>h x (List.mem_cons_of_mem _ hx)
theorem ruleR_pad {m:Nat} {a:Nat × Nat} {suf:List (Nat × Nat)} {r:Rl} (ha:a.1 ≤ 41) (hf:r.frm = m) (hr:∀ x ∈ r.to,(m:Int) < x) :
 ((ruleT (min 41) (min 11) m suf a r).1:Int) = min 41 ((a.1:Int) + prodI 41 (r.to.map fun x=>(padT Prod.fst m (a :: suf)).getD x.toNat 0)) ∧
 ((ruleT (min 41) (min 11) m suf a r).2:Int) = if 0 < prodI 41 (r.to.map fun x=>(padT Prod.fst m (a :: suf)).getD x.toNat 0) then max (a.2:Int) (min 11 ((r.to.map fun x=>(padT Prod.snd m (a :: suf)).getD x.toNat 0).sum)) else a.2:=by
 have h1:(r.to.map fun x=>(padT Prod.fst m (a :: suf)).getD x.toNat 0) = (r.to.map fun x=>(motT suf (m + 1) x).1).map fun (n:Nat)=>(n:Int):=by
  rw [List.map_map]
  exact List.map_congr_left fun x hx=>padT_get rfl m a suf x (hr x hx)
 have h2:(r.to.map fun x=>(padT Prod.snd m (a :: suf)).getD x.toNat 0) = (r.to.map fun x=>(motT suf (m + 1) x).2).map fun (n:Nat)=>(n:Int):=by
  rw [List.map_map]
  exact List.map_congr_left fun x hx=>padT_get rfl m a suf x (hr x hx)
 have h3:∀ l:List Nat,(l.map fun (n:Nat)=>(n:Int)).sum = ((l.sum:Nat):Int):=by
  intro l
  induction l with
  | nil=>rfl
  | cons a l ih=>rw [List.map_cons,List.sum_cons,List.sum_cons,ih];omega
 have h4:=prodC_ne (r.to.map fun x=>(motT suf (m + 1) x).1)
 rw [h1,h2,prodI_cast,h3]
 unfold ruleT
 by_cases he:endsT suf (m + 1) r = true
 ·rw [if_pos ⟨hf,he⟩]
  have h5:prodC (min 41) (r.to.map fun x=>(motT suf (m + 1) x).1) ≠ 0:=h4.2 fun y hy=>by
   obtain ⟨x,hx,rfl⟩:=List.mem_map.1 hy
   unfold endsT at he
   exact of_decide_eq_true (List.all_eq_true.1 he x hx)
  rw [if_pos (by omega)]
  simp only
  omega
 ·rw [if_neg (fun h=>he h.2)]
  have h5:prodC (min 41) (r.to.map fun x=>(motT suf (m + 1) x).1) = 0:=by
   refine Classical.byContradiction fun h=>he ?_
   unfold endsT
   exact List.all_eq_true.2 fun x hx=>decide_eq_true (h4.1 h _ (List.mem_map.2 ⟨x,hx,rfl⟩))
  rw [h5,if_neg (by omega)]
  refine ⟨?_,rfl⟩
  show (a.1:Int) = min 41 ((a.1:Int) + ((0:Nat):Int))
  omega
namespace Sty
def rab (s:Sty):List (Nat × Nat):=tabT (min 41) (min 11) s.e.toNat s.num s.rl s.num
def rm (s:Sty):List Int:=s.rab.map fun p=>(p.1:Int)
def rn (s:Sty):List Int:=s.rab.map fun p=>(p.2:Int)
theorem rab_len (s:Sty):s.rab.length = s.num:=tab_len _ _ _ _ _ _
theorem rm_len (s:Sty):s.rm.length = s.num:=by unfold rm;rw [List.length_map,rab_len]
theorem rn_len (s:Sty):s.rn.length = s.num:=by unfold rn;rw [List.length_map,rab_len]
end Sty
theorem rab_first (s:Sty) (hP:PartsOk s.e s.sc s.rl):∃ p l,s.rab = p :: l∧p.1 = min 41 (manyM s.e s.num s.rl 0).1∧p.2 = min 11 (manyM s.e s.num s.rl 0).2:=by
 have hn:1 ≤ s.num:=by unfold Sty.num;have:=hP.e1;omega
 have h1:=tab_cap (cap_min 41 (by omega)) (cap_min 11 (by omega)) s.e.toNat s.num s.rl s.num
 have h2:=s.rab_len
 unfold Sty.rab at *
 unfold manyM trueT motT
 cases ht:tabT id id s.e.toNat s.num s.rl s.num with
 | nil=>rw [ht] at h1;rw [h1] at h2;simp at h2;omega
 | cons q l =>
  rw [ht] at h1
  exact ⟨capP (min 41) (min 11) q,l.map (capP (min 41) (min 11)),h1,rfl,rfl⟩
end Go.Pv
