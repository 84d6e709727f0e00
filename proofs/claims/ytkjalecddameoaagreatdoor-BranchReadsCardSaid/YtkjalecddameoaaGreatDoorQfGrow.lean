/- Contracts: whether a rule ends. -/
import Derived.Test.YtkjalecddameoaaGreatDoorQfLem
import Derived.Test.YtkjalecddameoaaGreatDoorQdWalk
import Derived.Shelf.Spec.SlicesGrow
set_option linter.all false
namespace Go.Pv
open Go Go.RowKit Go.Proofs
set_option maxRecDepth 200000
set_option maxHeartbeats 8000000
def endsM (mm:List Int) (to:List Int):Bool:=!(to.any fun x=>decide (mm.getD x.toNat 0 = 0))
abbrev toldC (e:Int) (ss rr:PV) (mm:List Int) (lv:PV):List PV:=[ii e,ss,rr,.sl .a (mm.map ii),lv]
theorem getD_at {l:List Int} {i:Nat} (h:i < l.length):(l.map ii)[i]? = some (ii (l.getD i 0)):=by
 rw [List.getElem?_map,List.getElem?_eq_getElem h,List.getD_eq_getElem?_getD,List.getElem?_eq_getElem h];rfl
theorem ends1_197 (e:Int) (ss rr lv:PV) (mm:List Int) (n:Int) (hn0:0 ≤ n) (hn:n < mm.length):CallOk Tryz.prog 197 [ii n,.ip (toldC e ss rr mm lv)] [] (.ret (.bool (decide (mm.getD n.toNat 0 = 0)))) []:=by
 refine CallOk.of0 hTT Tryz.func197 rfl rfl ?_
 have hx:=getD_at (l:=mm) (i:=n.toNat) (by omega)
 have hz:(Z.a = Z.n) = False:=by simp
 have hb:(mm.getD n.toNat 0 == 0) = decide (mm.getD n.toNat 0 = 0):=by rw [Bool.eq_iff_iff];simp
 repeat (with_reducible (first | apply nx | apply wQ rfl | ((first | apply wV | apply wW | apply wX | (apply wy cf0_ok;(focus kernel_rfl)));(focus (simp only [Tryz.f197,hx,hn0,hn,hz,go_sem];rfl))) | refine wz cf0_ok ?_ | (refine wa ?_;refine And.intro ?_ ?_;(focus kernel_rfl))))
 refine ⟨rfl,rfl,_,rfl,?_⟩
 rw [← hb];rfl
theorem ends_147 (e:Int) (ss rr lv:PV) (mm:List Int) (q:Rz) (hcl:closedL (toldC e ss rr mm lv) = true) (hz:zOk q.1 (q.2.to.map ii) = true) (hl:q.2.to.length ≤ 1000) (hr:∀ x ∈ q.2.to,0 ≤ x∧x < mm.length) :
 CallOk Tryz.prog 147 [.agg (toldC e ss rr mm lv),encRz q] [] (.ret (.bool (endsM mm q.2.to))) []:=by
 refine CallOk.of0 hTT Tryz.func147 rfl rfl ?_
 have h152:=contains_152 (g:=197) (cs:=[.ip (toldC e ss rr mm lv)]) (S:=[]) q.1 q.2.to (fun x=>decide (mm.getD x.toNat 0 = 0)) (ent Tryz.func197 rfl) (fun b hb=>by cases hb) (ltBL_of_closed 0 _ (by simpa [closedL,PV.closed] using hcl)) (zOk_map hz) (by omega)
  (fun x hx=>ends1_197 e ss rr lv mm x (hr x hx).1 (hr x hx).2)
 have hltb:ltBL 0 [PV.sl q.1 (q.2.to.map ii),.fn (.func 197) [] [.ip (toldC e ss rr mm lv)]] = true:=ltBL_of_closed 0 _ (by
  have h1:=closedL_is q.2.to
  have h2:closedL [PV.ip (toldC e ss rr mm lv)] = true:=by simpa [closedL,PV.closed] using hcl
  simp only [closedL,PV.closed,h1] at h2 ⊢
  simpa using h2)
 unfold encRz endsM
 generalize (q.2.to.any fun x=>decide (mm.getD x.toNat 0 = 0)) = b at h152 ⊢
 repeat (with_reducible (first | ((fail_if_success (refine RunQ.seq (x:=.region 1 _ _) ?_));(apply nx)) | apply wQ rfl | ((first | apply wV | apply wW | apply wX | (apply wy cf0_ok;(focus kernel_rfl)));(focus (simp only [Tryz.f147,go_sem];rfl))) | ((fail_if_success (show RunQ _ (.region 1 _ _) _ _));(refine wz cf0_ok ?_)) | (refine wa ?_;refine And.intro ?_ ?_;(focus kernel_rfl))))
 refine RunQ.fzVar 2 0 rfl rfl rfl rfl ?_
 repeat (with_reducible (first | apply nx | apply wQ rfl | ((first | apply wV | apply wW | apply wX | (apply wy (cfAt_ok cf0_ok (ent Tryz.func152 rfl) h152 hltb);(focus kernel_rfl)));(focus (simp only [Tryz.f147,cfAt,notYield,go_sem];rfl))) | refine wz (cfAt_ok cf0_ok (ent Tryz.func152 rfl) h152 hltb) ?_ | (refine wa ?_;refine And.intro ?_ ?_;(focus kernel_rfl))))
 exact ⟨rfl,rfl,_,rfl,rfl⟩
end Go.Pv
namespace Go.Proofs
open Go.Shelf
def Tryz.grow236_ren:Go.Shelf.Ren:=⟨fun | 4=>236 | n=>n,fun | 22=>26 | 25=>3 | n=>n,fun | n=>n⟩
theorem Tryz.grow236:Go.Proofs.Lays8.n4 Tryz.prog Tryz.grow236_ren:={
 mixed:=by kernel_rfl
 f4:=⟨Tryz.f236.name,by decide,Tryz.func236.trans (congrArg some (by kernel_rfl))⟩
 t0:=Tryz.underlying0
 a0:=Tryz.isAgg0
 z0:=Tryz.sizeOf0
 v0:=Tryz.zeroValue0
 t3:=Tryz.underlying3
 a3:=Tryz.isAgg3
 z3:=Tryz.sizeOf3
 v3:=Tryz.zeroValue3
 t4:=Tryz.underlying4
 a4:=Tryz.isAgg4
 z4:=Tryz.sizeOf4
 v4:=Tryz.zeroValue4
 t9:=Tryz.underlying9
 a9:=Tryz.isAgg9
 z9:=Tryz.sizeOf9
 v9:=Tryz.zeroValue9
 t20:=Tryz.underlying20
 a20:=Tryz.isAgg20
 z20:=Tryz.sizeOf20
 v20:=Tryz.zeroValue20
 t22:=Tryz.underlying26
 a22:=Tryz.isAgg26
 z22:=Tryz.sizeOf26
 v22:=Tryz.zeroValue26 }
end Go.Proofs
namespace Go.Pv
open Go Go.RowKit Go.Proofs
set_option maxRecDepth 200000
set_option maxHeartbeats 8000000
theorem args_two {G:Gh} {x y:PV} {us:Array Value} (h:RepL G [x,y] us):∃ u v,us = #[u,v]∧Rep G x u∧Rep G y v:=by
 obtain ⟨h1,h2⟩:=h
 obtain ⟨l⟩:=us
 match l,h1 with
 | [u,v],_=>exact ⟨u,v,rfl,h2 0 x u rfl rfl,h2 1 y v rfl rfl⟩
theorem pf_of_ms0 {G:Gh} {id n g c:Nat} (h:Rep G (.ms id n) (.slice (some ⟨g,0,none⟩) n c)):Rep G (.pf id 0 n) (.slice (some ⟨g,0,none⟩) 0 c):=by
 cases h with
 | ms hs hle ho hu =>
  refine .pf hs hle rfl fun h=>⟨Nat.zero_le _,?_⟩
  rw [← hu h];rfl
theorem Grow_236 (n:Nat) (h1:1 ≤ n) (hn:n ≤ 100000) (sg:List Box):CallOk Tryz.prog 236 [.sl .n [],ii n] sg (.ret (.pf sg.length 0 n)) (sg ++ [.row false 3 1 (List.replicate n (ii 0)) false]):=by
 refine ⟨by simp,fun m G w us hR hL=>?_⟩
 obtain ⟨u,v,rfl,hu,hv⟩:=args_two hL
 cases hu with
 | sl hz=>exact absurd rfl hz
 | nils =>
 cases hv
 have he:(TT 3).d.ok = true:=by rw [T_3];rfl
 have h0:0 < (TT 3).size:=by rw [T_3];decide
 obtain ⟨f,z,ud,i1,i2,i3,i4,i5,i6,i7,i8,i9,i10,_⟩:=(hTT 3 he).ex
 have e1:f.size = 1:=by rw [i2,T_3]
 have e3:f.bytes = 8:=by rw [i3,T_3]
 obtain ⟨z1,z2,z3⟩:=zeros_rep (hTT 3 he) h0 n i8 i5 G
 have hzr:(TT 3).zeroE = ii 0:=by rw [T_3];rfl
 have hsz:(TT 3).size = 1:=by rw [T_3]
 have hzs:z.cells.size = 1:=by rw [i5,hsz]
 rw [hzr,hsz] at z1
 rw [hzr,hsz] at z3
 rw [hzr] at z2
 have hcall:=Any8.slices_Grow_grow Tryz.grow236 f z i1 i4 (by omega) none 0 0 n [] w (Nat.le_refl _) (by omega) (by rw [e3];omega) (by omega) (by simp) (fun _=>rfl) (fun a e=>by cases e)
 have hcall:Calls Tryz.prog 236 #[.slice none 0 0,.int .i64 n] w fun e w'=>e = .returned (.slice (some ⟨w.heap.size,0,none⟩) 0 (grownCap w (0 + n) 0 3)) ∧
  w' = w.drew.alloc (.cells (#[] ++ Builtin.zeroCells z.cells (0 + n - 0) ++ Builtin.zeroCells z.cells (grownCap w (0 + n) 0 3 - (0 + n))) 3):=hcall
 have hge:0 + n ≤ grownCap w (0 + n) 0 3:=grownCap_ge w _ _ _
 have hml:grownCap w (0 + n) 0 3 ≤ maxLen:=grownCap_le_maxLen w _ _ _ (by unfold maxLen;omega)
 obtain ⟨c,hc⟩:∃ c,c = grownCap w (0 + n) 0 3:=⟨_,rfl⟩
 rw [← hc] at hcall hge hml
 refine CallsIn.mono (callsIn_wide.2 hcall) fun e w' ⟨he',hw⟩=>?_
 subst he'
 have how:w'.ownsRow w.heap.size 3 1 (.slice (some ⟨w.heap.size,0,none⟩) n c) n (Builtin.zeroCells z.cells n).toList:=by
  refine ⟨by simp [size_zeroCells,hzs],.inr ⟨w.heap.size,c,_,rfl,Nat.le_refl _,by rw [hw];exact heap_alloc_new w.drew _,by omega,hml,?_,?_⟩⟩
  ·simp [size_zeroCells,hzs];omega
  ·have hl:(Builtin.zeroCells z.cells n).toList.length = n * 1:=by simp [size_zeroCells,hzs]
   simp only [Array.toList_append,Nat.zero_add,Nat.sub_zero,List.append_assoc,Array.toList_empty,List.nil_append]
   rw [← hl]
   exact List.take_left
 have hbel:Below w.heap.size w w':=by rw [hw];exact below_drew_alloc w _
 have hR1:Rel (G.push .dead) (sg ++ [.dead]) w:=push_dead hR
 have hfree:free (sg ++ [Box.dead]) sg.length:=by
  unfold free
  rw [List.getElem?_append_right (Nat.le_refl _)];simp
 have hzc:RepL G (flat (List.replicate n (ii 0))) (Builtin.zeroCells z.cells n).toList.toArray:=by
  rw [Array.toArray_toList]
  unfold Builtin.zeroCells
  rw [hzs] at z1 ⊢
  exact z1
 obtain ⟨G',a1,a2,a3,a4⟩:=new_row hR1 hfree hbel (Nat.le_refl _) (es:=List.replicate n (ii 0)) (by simp) how z3 z2 (hzc.push .dead)
 have hset:(sg ++ [Box.dead]).set sg.length (.row false 3 1 (List.replicate n (ii 0)) false) = sg ++ [.row false 3 1 (List.replicate n (ii 0)) false]:=by
  rw [List.set_append_right _ _ (Nat.le_refl _)];simp
 rw [hset] at a1
 refine ⟨G',a1,(Gh.le_trans (G.push_le .dead) a2).leM _,a3,?_⟩
 exact pf_of_ms0 a4
def c236:List PV→List Box→Option (PRes × List Box)
 | [.sl .n [],.int .i64 n],sg=>if 1 ≤ n∧n ≤ 100000 then some (.ret (.pf sg.length 0 n.toNat),sg ++ [.row false 3 1 (List.replicate n.toNat (ii 0)) false]) else none
 | _,_=>none
theorem c236_ok:ConOk Tryz.prog 236 c236:=fun args sg r sg' h=>by
 unfold c236 at h
 split at h <;> try (cases h;done)
 split at h <;> cases h
 rename_i n hc
 have h1:=Grow_236 n.toNat (by omega) (by omega) sg
 have e:((n.toNat:Nat):Int) = n:=by omega
 rw [e] at h1
 exact ⟨ent Tryz.func236 rfl,h1,(SameLoops.refl sg).app [_] rfl⟩
theorem Clone_202 (l:List Int) (hl:l ≠ []) (hs:l.length ≤ 100000):CallOk Tryz.prog 202 [.sl .a (l.map ii)] [] (.ret (.ms 0 l.length)) [.row false 3 1 (l.map ii) false]:=by
 refine CallOk.ofS hTT Tryz.func202 rfl rfl ?_
 have he:(l.map ii).isEmpty = false:=by cases l with
  | nil=>exact absurd rfl hl
  | cons a l=>rfl
 have r1:l.length * 8 ≤ 140737488355328:=by omega
 have r2:l.length ≤ maxLen:=by unfold maxLen;omega
 have ez:(Z.a == Z.n) = false:=rfl
 repeat (with_reducible (first | apply nx | apply wQ rfl | ((first | apply wV | apply wW | apply wX | (apply wy cf0_ok;(focus kernel_rfl)));(focus (simp only [Tryz.f202,ez,he,r1,r2,all_mi,all_t,go_sem];rfl))) | refine wz cf0_ok ?_ | (refine wa ?_;refine And.intro ?_ ?_;(focus kernel_rfl))))
 refine ⟨rfl,rfl,_,rfl,?_⟩
 exact leaveC_row rfl (closedL_is l)
def c202:List PV→List Box→Option (PRes × List Box)
 | [.sl .a es],[]=>match decL decI es with
  | some l=>if l ≠ []∧l.length ≤ 100000 then some (.ret (.ms 0 l.length),[.row false 3 1 (l.map ii) false]) else none
  | none=>none
 | _,_=>none
theorem c202_ok:ConOk Tryz.prog 202 c202:=fun args sg r sg' h=>by
 unfold c202 at h
 split at h <;> try (cases h;done)
 split at h <;> try (cases h;done)
 rename_i hl
 split at h <;> cases h
 rename_i hc
 obtain rfl:=decL_inv decI_inv hl
 exact ⟨ent Tryz.func202 rfl,Clone_202 _ hc.1 hc.2,sameLoops_of _ _ rfl⟩
end Go.Pv
namespace Go.Pv
open Go Go.RowKit Go.Proofs
set_option maxRecDepth 200000
set_option maxHeartbeats 8000000
def catQ (L:List Qi):List Int:=L.flatMap (·.2)
theorem cat_snoc (L:List Qi) (q:Qi):catQ (L ++ [q]) = catQ L ++ q.2:=by unfold catQ;simp
theorem cat_take {L:List Qi} {i:Nat} {q:Qi} (h:L[i]? = some q):catQ (L.take (i + 1)) = catQ (L.take i) ++ q.2:=by
 rw [List.take_add_one,h];exact cat_snoc _ _
theorem cat_le (L:List Qi) (i:Nat):(catQ (L.take i)).length ≤ (catQ L).length:=by
 have:catQ L = catQ (L.take i) ++ catQ (L.drop i):=by
  unfold catQ
  rw [← List.flatMap_append,List.take_append_drop]
 rw [this,List.length_append];omega
def padQ (l:List Int) (n:Nat):List PV:=l.map ii ++ List.replicate (n - l.length) (ii 0)
theorem pad_len {l:List Int} {n:Nat} (h:l.length ≤ n):(padQ l n).length = n:=by unfold padQ;simp;omega
theorem pad_full (l:List Int):padQ l l.length = l.map ii:=by unfold padQ;simp
theorem pad_nil (n:Nat):padQ [] n = List.replicate n (ii 0):=by unfold padQ;simp
theorem pad_splice {l m:List Int} {n:Nat} (h:l.length + m.length ≤ n):splice (padQ l n) l.length (m.map ii) = padQ (l ++ m) n:=by
 unfold splice padQ
 have e1:(l.map ii ++ List.replicate (n - l.length) (ii 0)).take l.length = l.map ii:=List.take_left' (by simp)
 have e2:(l.map ii ++ List.replicate (n - l.length) (ii 0)).drop (l.length + (m.map ii).length) = List.replicate (n - (l ++ m).length) (ii 0):=by
  rw [← List.drop_drop,List.drop_left' (by simp)]
  simp
  omega
 rw [e1,e2,List.map_append]
theorem closed_pad (l:List Int) (n:Nat):closedL (padQ l n) = true:=by
 unfold padQ
 rw [closedL_append,closedL_is]
 have:List.replicate (n - l.length) (ii 0) = (List.replicate (n - l.length) (0:Int)).map ii:=by rw [List.map_replicate]
 rw [this,closedL_is];rfl
def cfH:CallF:=cfAdd cf0 236 c236
theorem cfH_ok:CallFOk Tryz.prog cfH:=cfAdd_ok cf0_ok c236_ok
theorem Concat_203 (z:Z) (L:List Qi) (hz:z = .n→L = []) (hq:qsB L = true) (hne:catQ L ≠ []) (hs:(catQ L).length ≤ 100000) (hL:L.length ≤ 1000):CallOk Tryz.prog 203 [.sl z (L.map encQ)] [] (.ret (.ms 0 (catQ L).length)) [.row false 3 1 ((catQ L).map ii) false]:=by
 refine CallOk.ofS hTT Tryz.func203 rfl rfl ?_
 have hcl:=closedL_Qs L
 repeat (with_reducible (first | apply nx | apply wQ rfl | ((first | apply wV | apply wW | apply wX | (apply wy cf0_ok;(focus kernel_rfl)));(focus (simp only [Tryz.f203,go_sem];rfl))) | refine wz cf0_ok ?_ | (refine wa ?_;refine And.intro ?_ ?_;(focus kernel_rfl))))
 refine RunQ.keep [11,10,9,3,2,0] (by simp only [go_sem];rfl) ?_
 refine RunQ.loop (fun i s'=>s' = ⟨[(11,ii i),(10,ii L.length),(9,.sl z (L.map encQ)),(3,ii ((catQ (L.take i)).length:Nat)),(2,.sl .n []),(0,.sl z (L.map encQ))],36,[]⟩) L.length (by simp only [List.length_map,go_sem];rfl) ?_
 rintro i _ hi rfl
 have hcle:=cat_le L i
 by_cases hlt:i < L.length
 ·obtain ⟨q,hqi⟩:∃ q,L[i]? = some q:=⟨_,List.getElem?_eq_getElem hlt⟩
  have hq':(L.map encQ)[i]? = some (.sl q.1 (q.2.map ii)):=by rw [List.getElem?_map,hqi];rfl
  have hlt':(i:Int) < L.length:=by omega
  have hz':z ≠ .n:=fun e=>by rw [hz e] at hlt;simp at hlt
  have hct:=cat_take hqi
  have hcle2:=cat_le L (i + 1)
  rw [hct,List.length_append] at hcle2
  have e3:IntKind.i64.wrap (((catQ (L.take i)).length:Int) + (q.2.length:Int)) = ((catQ (L.take i)).length:Int) + (q.2.length:Int):=wrap_id (by omega) (by omega)
  have hneg:¬ ((catQ (L.take i)).length:Int) + (q.2.length:Int) < 0:=by omega
  have e4:IntKind.i64.wrap ((i:Int) + 1) = ((i + 1:Nat):Int):=wrap_id (by omega) (by omega)
  repeat (with_reducible (first | apply nx | apply wQ rfl | ((first | apply wV | apply wW | apply wX | (apply wy cf0_ok;(focus kernel_rfl)));(focus (simp only [Tryz.f203,hlt',hq',hz',e3,e4,hneg,List.length_map,go_sem];rfl))) | refine wz cf0_ok ?_ | (refine wa ?_;refine And.intro ?_ ?_;(focus kernel_rfl))))
  refine roundQ.t 0 [11,10,9,3,2,0] hlt (by simp only [ltB_Qs,ltB_sl,go_sem]) (by rw [hct,List.length_append];simp only [go_sem];rfl)
 have hlt':¬ (i:Int) < L.length:=by omega
 obtain rfl:i = L.length:=by omega
 rw [List.take_length]
 clear hcle
 obtain ⟨N,hN⟩:∃ N,N = (catQ L).length:=⟨_,rfl⟩
 have hN1:1 ≤ N:=by
  rw [hN]
  exact List.length_pos_iff.2 hne
 rw [← hN] at hs ⊢
 have n1:(1:Int) ≤ (N:Int):=by omega
 have n2:(N:Int) ≤ 100000:=by omega
 repeat (with_reducible (first | apply nx | apply wQ rfl | ((first | apply wV | apply wW | apply wX | (apply wy cfH_ok;(focus kernel_rfl)));(focus (simp only [Tryz.f203,hlt',cfH,c236,n1,n2,go_sem];rfl))) | refine wz cfH_ok ?_ | (refine wa ?_;refine And.intro ?_ ?_;(focus kernel_rfl))))
 refine RunQ.keep [27,26,25,6,2,0] (by simp only [go_sem];rfl) ?_
 refine RunQ.loop (fun i s'=>s' = ⟨[(27,ii i),(26,ii L.length),(25,.sl z (L.map encQ)),(6,.pf 0 (catQ (L.take i)).length N),(2,.sl .n []),(0,.sl z (L.map encQ))],36,[.row false 3 1 (padQ (catQ (L.take i)) N) false]⟩) L.length (by simp only [List.length_map,go_sem];rw [← pad_nil];rfl) ?_
 rintro i _ hi rfl
 by_cases hlt:i < L.length
 ·obtain ⟨q,hqi⟩:∃ q,L[i]? = some q:=⟨_,List.getElem?_eq_getElem hlt⟩
  have hq':(L.map encQ)[i]? = some (.sl q.1 (q.2.map ii)):=by rw [List.getElem?_map,hqi];rfl
  have hlt':(i:Int) < L.length:=by omega
  have hz':z ≠ .n:=fun e=>by rw [hz e] at hlt;simp at hlt
  have hct:=cat_take hqi
  have hcle2:=cat_le L (i + 1)
  rw [hct,List.length_append,← hN] at hcle2
  have e4:IntKind.i64.wrap ((i:Int) + 1) = ((i + 1:Nat):Int):=wrap_id (by omega) (by omega)
  have hpl:=pad_len (l:=catQ (L.take i)) (n:=N) (by omega)
  have hsp:=pad_splice (l:=catQ (L.take i)) (m:=q.2) (n:=N) hcle2
  simp only [splice,List.length_map,List.append_assoc] at hsp
  generalize catQ (L.take i) = l at *
  have hlp:=closed_pad l N
  have hlp2:=closed_pad (l ++ q.2) N
  have hlb:∀ m x,closedL x = true→ltBL m x = true:=fun m x h=>ltBL_of_closed m x h
  by_cases hm:q.2 = []
  ·rw [hm] at hq'
   by_cases hkN:l.length = N
   ·repeat (with_reducible (first | apply nx | apply wQ rfl | ((first | apply wV | apply wW | apply wX | (apply wy cfH_ok;(focus kernel_rfl)));(focus (simp only [Tryz.f203,hlt',hq',hz',e4,hpl,hkN,List.map_nil,go_sem];rfl))) | refine wz cfH_ok ?_ | (refine wa ?_;refine And.intro ?_ ?_;(focus kernel_rfl))))
    refine roundQ.t 1 [27,26,25,6,2,0] hlt (by simp only [ltB_Qs,ltB_sl,hlb _ _ hlp,go_sem]) (by rw [hct,hm,List.append_nil,hkN];simp only [go_sem])
   ·repeat (with_reducible (first | apply nx | apply wQ rfl | ((first | apply wV | apply wW | apply wX | (apply wy cfH_ok;(focus kernel_rfl)));(focus (simp only [Tryz.f203,hlt',hq',hz',e4,hpl,hkN,List.map_nil,go_sem];rfl))) | refine wz cfH_ok ?_ | (refine wa ?_;refine And.intro ?_ ?_;(focus kernel_rfl))))
    refine roundQ.t 1 [27,26,25,6,2,0] hlt (by simp only [ltB_Qs,ltB_sl,hlb _ _ hlp,go_sem]) (by rw [hct,hm,List.append_nil];simp only [go_sem])
  ·have hml:0 < q.2.length:=List.length_pos_iff.2 hm
   have hkN:¬ l.length = N:=by omega
   have hem:(q.2.map ii).isEmpty = false:=by cases hq2:q.2 with
    | nil=>exact absurd hq2 hm
    | cons a r=>rfl
   repeat (with_reducible (first | apply nx | apply wQ rfl | ((first | apply wV | apply wW | apply wX | (apply wy cfH_ok;(focus kernel_rfl)));(focus (simp only [Tryz.f203,hlt',hq',hz',e4,hpl,hkN,hml,hem,hcle2,hsp,all_mi,all_t,List.length_map,go_sem];rfl))) | refine wz cfH_ok ?_ | (refine wa ?_;refine And.intro ?_ ?_;(focus kernel_rfl))))
   refine roundQ.t 1 [27,26,25,6,2,0] hlt (by simp only [ltB_Qs,ltB_sl,hlb _ _ hlp2,go_sem]) (by rw [hct,List.length_append];simp only [go_sem])
 ·have hlt':¬ (i:Int) < L.length:=by omega
  obtain rfl:i = L.length:=by omega
  rw [List.take_length,← hN]
  have hpl:=pad_len (l:=catQ L) (n:=N) (by omega)
  have hpf:padQ (catQ L) N = (catQ L).map ii:=by rw [hN];exact pad_full _
  refine RunQ.pfMs 6 0 rfl rfl hpl rfl ?_
  rw [hpf]
  repeat (with_reducible (first | apply nx | apply wQ rfl | ((first | apply wV | apply wW | apply wX | (apply wy cfH_ok;(focus kernel_rfl)));(focus (simp only [Tryz.f203,hlt',go_sem];rfl))) | refine wz cfH_ok ?_ | (refine wa ?_;refine And.intro ?_ ?_;(focus kernel_rfl))))
  exact ⟨rfl,rfl,_,rfl,leaveC_row rfl (closedL_is _)⟩
end Go.Pv
