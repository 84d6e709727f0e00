/- The derivations of a story, as the program goes through them. -/
import Derived.Test.YtkjalecddameoaaGreatDoorQgStory
import Derived.Test.YtkjalecddameoaaGreatDoorQfSort
import Derived.Test.YtkjalecddameoaaGreatDoorQdWalk
set_option linter.all false
namespace Go.Pv
open Go Go.RowKit Go.Proofs
set_option maxRecDepth 200000
set_option maxHeartbeats 8000000
theorem forM_congr {ok ok':Rl→Bool} {m:Int}:∀ (rl:List Rl) (i:Nat),(∀ r ∈ rl,ok r = ok' r)→forM ok m rl i = forM ok' m rl i
 | [],_,_=>rfl
 | r :: rl,i,h=>by
  rw [forM,forM,h r List.mem_cons_self,forM_congr rl (i + 1) fun x hx=>h x (List.mem_cons_of_mem _ hx)]
theorem derG_congr {e:Int} {ok ok':Rl→Bool} {rl:List Rl} (h:∀ r ∈ rl,ok r = ok' r):∀ f l,derG e ok rl f l = derG e ok' rl f l
 | 0,_=>rfl
 | f + 1,l=>by
  rw [derG,derG]
  cases firstE e l with
  | none=>rfl
  | some a =>
   show List.flatMap _ (forM ok (l.getD a 0) rl 0) = List.flatMap _ (forM ok' (l.getD a 0) rl 0)
   rw [forM_congr (m:=l.getD a 0) rl 0 h]
   exact flat_congr fun ir _=>by rw [derG_congr h f]
theorem mm_get (s:Sty) (x:Int):s.mm.getD x.toNat 0 = ((min 1000 (manyM s.e s.num s.rl x).1:Nat):Int):=by
 unfold Sty.mm Sty.tab
 rw [tab_cap (cap_min 1000 (by omega)) cap_id]
 unfold manyM trueT motT
 rw [List.getD_eq_getElem?_getD,List.getD_eq_getElem?_getD,List.map_map,List.getElem?_map,Nat.sub_zero]
 cases (tabT id id s.e.toNat s.num s.rl s.num)[x.toNat]? with
 | none=>simp
 | some p=>rfl
theorem okM_okR (s:Sty):∀ r ∈ s.rl,okM s.mm r = okR s.e s.sc s.rl r:=fun r hr=>by
 unfold okM okR okF endsM
 have key:∀ l:List Int,(!(l.any fun x=>decide (s.mm.getD x.toNat 0 = 0))) = l.all fun x=>decide ((manyM s.e (s.e.toNat + s.sc.length) s.rl x).1 ≠ 0):=by
  intro l
  induction l with
  | nil=>rfl
  | cons x l ih =>
   rw [List.any_cons,List.all_cons,Bool.not_or,ih,mm_get]
   congr 1
   have:manyM s.e s.num s.rl x = manyM s.e (s.e.toNat + s.sc.length) s.rl x:=rfl
   rw [this]
   by_cases h1:(manyM s.e (s.e.toNat + s.sc.length) s.rl x).1 = 0
   ·simp [h1]
   ·have h2:((min 1000 (manyM s.e (s.e.toNat + s.sc.length) s.rl x).1:Nat):Int) ≠ 0:=by omega
    simp only [decide_eq_false h2,decide_eq_true h1]
    rfl
 exact key r.to
def dersV (s:Sty):List (List PV):=(ders s.e s.sc s.rl).map fun dd=>[.agg [.sl .a ((intsN dd.1).map ii),.sl .a (dd.2.map ii)]]
theorem rzIn_of {s:Sty} (hok:s.ok = true) (hP:PartsOk s.e s.sc s.rl):rzIn s.mm s.rz = true:=by
 unfold rzIn
 rw [List.all_eq_true]
 intro q hq
 have h1:=hP.rr q.2 (List.mem_map.2 ⟨q,hq,rfl⟩)
 have h2:=rzB_at (Sty.ok_z hok) hq
 have h3:=hP.num
 simp only [Bool.and_eq_true,decide_eq_true_eq,List.all_eq_true]
 refine ⟨⟨⟨h2,h1.2.2.1⟩,h1.2.2.2.1⟩,fun x hx=>?_⟩
 have h4:=h1.2.2.2.2 x hx
 rw [s.mm_len]
 unfold Sty.num
 omega
theorem ders_198 (s:Sty) (hok:s.ok = true) (hP:PartsOk s.e s.sc s.rl):IterOk Tryz.prog 198 (fun id=>[.yl id,.ip s.told]) (dersV s):=by
 have h1:=hP.e1
 have h2:=hP.e6
 have h3:=hP.s8
 have h4:=hP.r10
 have hr:=s.rl_len
 have hw:wtF s.e [0] + 1 ≤ 20000:=by
  have:wtF s.e [0] = 5 ^ (s.e - 0).toNat:=by unfold wtF wtM;simp
  have h5:5 ^ (s.e - 0).toNat ≤ 5 ^ 6:=Nat.pow_le_pow_right (by omega) (by omega)
  have h6:(5:Nat) ^ 6 = 15625:=by decide
  omega
 have:=derivations_198 s.e s.zs (s.sc.map encSn) (s.ln.map ii) s.mm s.zr s.rz (closed_told s) (Sty.ok_r hok) (rzIn_of hok hP) (by omega) ⟨by omega,by omega⟩ (by rw [s.mm_len];unfold Sty.num;omega) hw
 have e:resD [] (derG s.e (okM s.mm) (s.rz.map (·.2)) (wtF s.e [0] + 1) [0]) = dersV s:=by
  have:derG s.e (okM s.mm) (s.rz.map (·.2)) (wtF s.e [0] + 1) [0] = ders s.e s.sc s.rl:=derG_congr (okM_okR s) _ _
  rw [this]
  rfl
 rw [e] at this
 exact this
end Go.Pv
namespace Go.Pv
open Go Go.RowKit Go.Proofs
set_option maxRecDepth 200000
set_option maxHeartbeats 8000000
def ddV (dd:List Nat × List Int):PV:=.agg [.sl .a ((intsN dd.1).map ii),.sl .a (dd.2.map ii)]
theorem closed_dd (dd:List Nat × List Int):(ddV dd).closed = true:=by
 show (closedL _ && (closedL _ && true)) = true
 rw [closedL_is,closedL_is];rfl
theorem closedL_dds (L:List (List Nat × List Int)):closedL (L.map ddV) = true:=closedL_map closed_dd L
def ofV (L:List (List Nat × List Int)):PV:=.sl (if decide (L.length = 0) = true then .n else .a) (L.map ddV)
theorem dersV_eq (s:Sty):dersV s = (ders s.e s.sc s.rl).map fun dd=>[ddV dd]:=rfl
def cfW1:CallF:=cfAdd (cfAdd cf0 149 c149) 95 c95
theorem cfW1_ok:CallFOk Tryz.prog cfW1:=cfAdd_ok (cfAdd_ok cf0_ok c149_ok) c95_ok
theorem ofB_take {T:List (List Nat × List Int)} {p:List Int} {i:Nat} {d:List Nat × List Int} (h:T[i]? = some d):ofB (T.take (i + 1)) p = ofB (T.take i) p ++ (if d.2 = p then [d] else []):=by
 unfold ofB
 rw [List.take_add_one,h,List.filter_append]
 by_cases hd:d.2 = p
 ·rw [if_pos hd];simp [List.filter_cons,hd]
 ·rw [if_neg hd];simp [List.filter_cons,hd]
theorem ofB_le (T:List (List Nat × List Int)) (p:List Int):(ofB T p).length ≤ T.length:=List.length_filter_le ..
theorem fn_lt {m:Nat} {f:FuncId} {cs:List PV} (h:closedL cs = true):Pv.Lt m (.fn (.func f) [] [.ip cs]):=by
 refine .fn (fun c hc=>by cases hc) fun c hc=>?_
 simp only [List.mem_cons,List.not_mem_nil,or_false] at hc
 subst hc
 exact (lt_of_closed _ (show (PV.ip cs).closed = true from h)).mono (Nat.zero_le _)
theorem varLt {m:Nat} {cs:List PV} {f:Bool} (h:closedL cs = true):(Box.var cs f).Lt m:=fun c hc=>(lt_of_closedL _ h c hc).mono (Nat.zero_le _)
theorem rowLt {m:Nat} {z f:Bool} {e:TypeId} {k:Nat} {es:List PV} (h:closedL es = true):(Box.row z e k es f).Lt m:=fun c hc=>(lt_of_closedL _ (closedL_flat _ h) c hc).mono (Nat.zero_le _)
theorem of_91 (s:Sty) (hok:s.ok = true) (hst:s.story = true) (z:Z) (p:List Int) (hz:zOk z (p.map ii) = true):CallOk Tryz.prog 91 [.agg s.told,.sl z (p.map ii)] [] (.ret (ofV (ofB (ders s.e s.sc s.rl) p))) []:=by
 refine CallOk.ofF hTT Tryz.func91 rfl rfl ?_
 have hS:=Sty.story_ok hst
 have hit:=ders_198 s hok hS.toPartsOk
 have hct:=closed_told s
 have hTn:=ders_len hS
 have hTp:=ders_play hS
 repeat (with_reducible (first | apply nx | apply wQ rfl | ((first | apply wV | apply wW | apply wX | (apply wy cfW1_ok;(focus kernel_rfl)));(focus (simp only [Tryz.f91,cfW1,c149,closedL_sns,closedL_rzs,closedL_is,notYield,go_sem];rfl))) | refine wz cfW1_ok ?_ | (refine wa ?_;refine And.intro ?_ ?_;(focus kernel_rfl))))
 refine RunQ.keep [8,5,3] (by simp only [go_sem];rfl) ?_
 refine RunQ.nilBox (sg':=[.var s.told false,.var [.sl z (p.map ii)] false,.var [.ms 3 0] false,.row true 134 2 [] false]) 2 0 134 2 rfl rfl rfl ?_
 rw [dersV_eq] at hit
 generalize ders s.e s.sc s.rl = T at *
 have hcp:=closedL_is p
 refine RunQ.range (L:=T.map fun dd=>[ddV dd]) (first:=[]) (cap:=[.ip s.told]) rfl (ent Tryz.func198 rfl) hit ?_ ?_ ?_
  (fun i st=>st = [.var s.told false,.var [.sl z (p.map ii)] false,.var [.ms 3 (ofB (T.take i) p).length] false,.row (decide ((ofB (T.take i) p).length = 0)) 134 2 ((ofB (T.take i) p).map ddV) false])
  rfl ?_ ?_ ?_
 ·intro e he
  obtain ⟨l,_,rfl⟩:=List.mem_map.1 he
  rfl
 ·intro t ht
  have h9:t = 9:=by simpa using ht
  subst h9
  show (9:Nat) < 19
  decide
 ·intro t v hv
  obtain ⟨q,hq,rfl⟩:=getT_mem hv
  simp only [List.mem_cons,List.not_mem_nil,or_false] at hq
  rcases hq with rfl | rfl | rfl
  ·exact fn_lt hct
  ·exact .bp (show (2:Nat) < 5 by decide)
  ·exact .bp (show (1:Nat) < 5 by decide)
 ·rintro i st rfl
  refine ⟨rfl,fun x hx=>?_,sameLoops_of _ _ rfl⟩
  simp only [List.mem_cons,List.not_mem_nil,or_false] at hx
  rcases hx with rfl | rfl | rfl | rfl
  ·exact varLt hct
  ·exact varLt (by simp [closedL,PV.closed,hcp])
  ·exact fun c hc=>by
    simp only [List.mem_cons,List.not_mem_nil,or_false] at hc
    subst hc
    exact .ms (show (3:Nat) < 5 by decide)
  ·exact rowLt (closedL_dds _)
 ·rintro i e st he rfl
  obtain ⟨d,hd,rfl⟩:∃ d,T[i]? = some d∧e = [ddV d]:=by
   rw [List.getElem?_map,Option.map_eq_some_iff] at he
   obtain ⟨d,a,rfl⟩:=he
   exact ⟨d,a,rfl⟩
  have htk:=ofB_take (p:=p) hd
  have hMl:(ofB (T.take i) p).length ≤ 40:=Nat.le_trans (ofB_le _ _) (by rw [List.length_take];omega)
  have hdp:=(hTp d (List.mem_of_getElem? hd)).1
  refine .next _ rfl fun own ho=>?_
  rw [htk]
  generalize ofB (T.take i) p = M at hMl ⊢
  have ga0:=app_get0 own
  have ga:=app_get own
  have gs0:=app_set0 own
  have gs:=app_set own
  have hd1:decIs1 (.sl .a (d.2.map ii)) = some d.2:=decIs1_enc rfl
  have hd2:decIs1 (.sl z (p.map ii)) = some p:=decIs1_enc hz
  have hc1:=closedL_is d.2
  have hm:d.2.length ≤ maxLen:=by unfold maxLen;omega
  unfold YRun
  generalize hX:Box.loop _ = X1
  have hdd:ddV d = .agg [.sl .a ((intsN d.1).map ii),.sl .a (d.2.map ii)]:=rfl
  rw [hdd]
  repeat (with_reducible (first | apply nx | apply wQ rfl | ((first | apply wV | apply wW | apply wX | (apply wy cfW1_ok;(focus kernel_rfl)));(focus (simp only [Tryz.f91,putPs,List.toList_toArray,ga0,ga,gs0,gs,go_sem];rfl))) | refine wz cfW1_ok ?_ | (refine wa ?_;refine And.intro ?_ ?_;(focus kernel_rfl))))
  refine ⟨rfl,own ++ [.var [.sl .a ((intsN d.1).map ii),.sl .a (d.2.map ii)] false],by rw [← hX];rfl,?_⟩
  dsimp only
  generalize hX2:Box.loop _ = X2
  by_cases hp:d.2 = p
  ·rw [if_pos hp]
   have hde:decide (d.2 = p) = true:=decide_eq_true hp
   have q1:(M.length + 1) * 48 ≤ 140737488355328:=by omega
   have q2:M.length + 1 ≤ maxLen:=by unfold maxLen;omega
   repeat (with_reducible (first | apply nx | apply wQ rfl | ((first | apply wV | apply wW | apply wX | (apply wy cfW1_ok;(focus kernel_rfl)));(focus (simp only [Tryz.f91,cfW1,c95,hd1,hd2,hde,hc1,hcp,hm,q1,q2,ga0,ga,gs0,gs,List.length_map,go_sem];rfl))) | refine wz cfW1_ok ?_ | (refine wa ?_;refine And.intro ?_ ?_;(focus kernel_rfl))))
   exact ⟨rfl,[.var [.sl .a ((intsN d.1).map ii),.sl .a (d.2.map ii)] false,.dead],by rw [← hX2];simp [ddV]⟩
  ·rw [if_neg hp,List.append_nil]
   have hde:decide (d.2 = p) = false:=decide_eq_false hp
   repeat (with_reducible (first | apply nx | apply wQ rfl | ((first | apply wV | apply wW | apply wX | (apply wy cfW1_ok;(focus kernel_rfl)));(focus (simp only [Tryz.f91,cfW1,c95,hd1,hd2,hde,hc1,hcp,hm,ga0,ga,gs0,gs,List.length_map,go_sem];rfl))) | refine wz cfW1_ok ?_ | (refine wa ?_;refine And.intro ?_ ?_;(focus kernel_rfl))))
   exact ⟨rfl,[.var [.sl .a ((intsN d.1).map ii),.sl .a (d.2.map ii)] false],by rw [← hX2];simp⟩
 ·rintro st rfl
  rw [List.length_map,List.take_length]
  repeat (with_reducible (first | apply nx | apply wQ rfl | ((first | apply wV | apply wW | apply wX | (apply wy cfW1_ok;(focus kernel_rfl)));(focus (simp only [Tryz.f91,go_sem];rfl))) | refine wz cfW1_ok ?_ | (refine wa ?_;refine And.intro ?_ ?_;(focus kernel_rfl))))
  refine ⟨rfl,rfl,_,rfl,?_⟩
  exact leave_row (id:=3) rfl (closedL_dds _) (by simp)
end Go.Pv
namespace Go.Pv
open Go Go.RowKit Go.Proofs
set_option maxRecDepth 200000
set_option maxHeartbeats 8000000
def addU (U:List (List Int)) (p:List Int):List (List Int):=if p ∈ U then U else U ++ [p]
def uniqB (l:List (List Int)):List (List Int):=l.foldl addU []
theorem uniqB_snoc (l:List (List Int)) (p:List Int):uniqB (l ++ [p]) = addU (uniqB l) p:=by unfold uniqB;rw [List.foldl_append];rfl
theorem uniqB_spec (l:List (List Int)):(uniqB l).Nodup∧(∀ z,z ∈ uniqB l↔z ∈ l)∧(uniqB l).length ≤ l.length:=by
 have key:∀ (l:List (List Int)) (U:List (List Int)),U.Nodup→(l.foldl addU U).Nodup∧(∀ z,z ∈ l.foldl addU U↔z ∈ U ∨ z ∈ l)∧(l.foldl addU U).length ≤ U.length + l.length:=by
  intro l
  induction l with
  | nil=>intro U h;exact ⟨h,fun z=>by simp,by simp⟩
  | cons p l ih =>
   intro U h
   rw [List.foldl_cons]
   by_cases hp:p ∈ U
   ·have e:addU U p = U:=if_pos hp
    rw [e]
    obtain ⟨a,b,c⟩:=ih U h
    refine ⟨a,fun z=>?_,by simp;omega⟩
    rw [b,List.mem_cons]
    constructor
    ·rintro (h | h)
     ·exact .inl h
     ·exact .inr (.inr h)
    ·rintro (h | rfl | h)
     ·exact .inl h
     ·exact .inl hp
     ·exact .inr h
   ·have e:addU U p = U ++ [p]:=if_neg hp
    rw [e]
    have hn:(U ++ [p]).Nodup:=by
     rw [List.nodup_append]
     exact ⟨h,by simp,fun a ha b hb=>by simp at hb;subst hb;exact fun e=>hp (e ▸ ha)⟩
    obtain ⟨a,b,c⟩:=ih (U ++ [p]) hn
    refine ⟨a,fun z=>?_,by simp at c ⊢;omega⟩
    rw [b,List.mem_append,List.mem_singleton,List.mem_cons,or_assoc]
 obtain ⟨a,b,c⟩:=key l [] List.nodup_nil
 exact ⟨a,fun z=>by rw [show (z ∈ uniqB l) = (z ∈ l.foldl addU []) from rfl,b];simp,by rw [List.length_nil,Nat.zero_add] at c;exact c⟩
theorem plays_uniq (l:List (List Int)):playsL (uniqB l) = playsL l:=plays_eq (plays_rise _) fun z=>by rw [plays_mem,(uniqB_spec l).2.1]
theorem playsL_len {l:List (List Int)} (h:l.Nodup):(playsL l).length = l.length:=by
 have h1:=nodup_len h fun x hx=>(plays_mem l x).2 hx
 have h2:=nodup_len (rise_nodup (plays_rise l)) fun x hx=>(plays_mem l x).1 hx
 omega
def plsV (l:List (List Int)):PV:=.sl (if decide (l.length = 0) = true then .n else .a) (l.map slx)
theorem sortNone_151 {sg:List Box} {bi:Nat} {e:TypeId} {f:FuncId} {z:Bool} (hb:sg[bi]? = some (.row z e 1 [] false)):CallOk Tryz.prog 151 [.ms bi 0,.fn (.func f) [] []] sg (.ret (.tuple [])) sg:=by
 refine ⟨Nat.le_refl _,fun m G w us hR hL=>?_⟩
 obtain ⟨u,v,rfl,hu,hv⟩:=args2 hL
 cases hv with
 | fn hf h1 h2 =>
 rename_i us vs _ _
 obtain rfl:us = #[]:=Array.eq_empty_of_size_eq_zero h1
 obtain rfl:vs = #[]:=Array.eq_empty_of_size_eq_zero h2
 cases hu with
 | ms hs hle ho huv =>
 rename_i m' k v
 obtain ⟨rfl,hml,hz,hk,h1',⟨us,hown,hLs⟩,hS⟩:=hR.box bi _ _ hs hb
 have hml:m' = 0:=by have:=hml;simp at this;omega
 subst hml
 obtain rfl:=huv rfl
 have key:∀ (A:Option Addr) (c:Nat),CallsIn Fence.wide m Tryz.prog 151 #[.slice A 0 c,.func (.func f) #[] #[]] w fun e' w'=>∃ G',Rel G' sg w'∧Gh.leM sg.length G G'∧G'.dfr = G.dfr∧match PRes.ret (.tuple []),e' with
  | .ret v,.returned u=>Rep G' v u
  | .pan v,.panicked ch=>∃ u,ch = [{ v:=u,recovered:=false }]∧Rep G' v u
  | _,_=>False:=by
  intro A c
  refine CallsIn.mono (callsIn_wide.2 (AnyF.slices_SortFunc_none (P:=Tryz.prog) (ρ:=Tryz.sort151_ren) { Tryz.sort151 with } A c _ w)) ?_
  rintro e' w' ⟨rfl,rfl⟩
  exact ⟨G,hR,leM_refl _ _,rfl,.tuple rfl fun j c u hc=>by cases hc⟩
 rcases hown.2 with ⟨rfl,_⟩ | ⟨b,cap,cur,rfl,_⟩
 ·exact key none 0
 ·exact key _ cap
def cfX1:CallF:=cfAdd (cfAdd cf0 149 c149) 150 c150
theorem cfX1_ok:CallFOk Tryz.prog cfX1:=cfAdd_ok (cfAdd_ok cf0_ok c149_ok) c150_ok
theorem keyB_def (p:List Int):keyB p = .agg [ii p.length,ii (p.getD 0 0),ii (p.getD 1 0),ii (p.getD 2 0),ii (p.getD 3 0),ii (p.getD 4 0),ii (p.getD 5 0),ii (p.getD 6 0),ii (p.getD 7 0),ii (p.getD 8 0),ii (p.getD 9 0)]:=rfl
theorem keyB_all (U:List (List Int)):closedL (U.map keyB) = true:=closedL_map keyB_closed U
theorem plays_89 (s:Sty) (hok:s.ok = true) (hst:s.story = true):CallOk Tryz.prog 89 [.agg s.told] [] (.ret (plsV (playsB s.e s.sc s.rl))) []:=by
 refine CallOk.ofF hTT Tryz.func89 rfl rfl ?_
 have hS:=Sty.story_ok hst
 have hit:=ders_198 s hok hS.toPartsOk
 have hct:=closed_told s
 have hTn:=ders_len hS
 have hTp:=ders_play hS
 repeat (with_reducible (first | apply nx | apply wQ rfl | ((first | apply wV | apply wW | apply wX | (apply wy cfX1_ok;(focus kernel_rfl)));(focus (simp only [Tryz.f89,cfX1,c149,closedL_sns,closedL_rzs,closedL_is,makeMapC,notYield,go_sem];rfl))) | refine wz cfX1_ok ?_ | (refine wa ?_;refine And.intro ?_ ?_;(focus kernel_rfl))))
 refine RunQ.keep [11,4,3] (by simp only [go_sem];rfl) ?_
 refine RunQ.nilBox (sg':=[.var s.told false,.map [] [] false,.var [.mp 1] false,.var [.ms 4 0] false,.row true 26 1 [] false]) 3 0 26 1 rfl rfl rfl ?_
 rw [dersV_eq] at hit
 have hpB:playsB s.e s.sc s.rl = playsL (uniqB ((ders s.e s.sc s.rl).map (·.2))):=(plays_uniq _).symm
 rw [hpB]
 generalize ders s.e s.sc s.rl = T at *
 obtain ⟨W,hW⟩:∃ W:Nat→List (List Int),W = fun i=>uniqB ((T.take i).map (·.2)):=⟨_,rfl⟩
 have hWe:W T.length = uniqB (T.map (·.2)):=by rw [hW];show uniqB ((T.take T.length).map (·.2)) = _;rw [List.take_length]
 have hWn:∀ i,(W i).Nodup:=fun i=>by rw [hW];exact (uniqB_spec _).1
 have hWl:∀ i,(W i).length ≤ 40:=fun i=>by
  rw [hW]
  have:=(uniqB_spec ((T.take i).map (·.2))).2.2
  rw [List.length_map,List.length_take] at this
  show (uniqB ((T.take i).map (·.2))).length ≤ 40
  omega
 have hW10:∀ i,∀ b ∈ W i,b.length ≤ 10:=fun i b hb=>by
  rw [hW] at hb
  obtain ⟨d,hd,rfl⟩:=List.mem_map.1 (((uniqB_spec _).2.1 b).1 hb)
  exact (hTp d (List.mem_of_mem_take hd)).1
 have hWs:∀ i d,T[i]? = some d→W (i + 1) = addU (W i) d.2:=fun i d h=>by
  rw [hW]
  show uniqB ((T.take (i + 1)).map (·.2)) = _
  rw [List.take_add_one,h,List.map_append]
  exact uniqB_snoc _ _
 have hW0:W 0 = []:=by rw [hW];rfl
 rw [← hWe]
 refine RunQ.range (L:=T.map fun dd=>[ddV dd]) (first:=[]) (cap:=[.ip s.told]) rfl (ent Tryz.func198 rfl) hit ?_ ?_ ?_
  (fun i st=>st = [.var s.told false,.map ((W i).map keyB) ((W i).map fun _=>.agg []) false,.var [.mp 1] false,.var [.ms 4 (W i).length] false,.row (decide ((W i).length = 0)) 26 1 ((W i).map slx) false])
  (by rw [hW0];rfl) ?_ ?_ ?_
 ·intro e he
  obtain ⟨l,_,rfl⟩:=List.mem_map.1 he
  rfl
 ·intro t ht
  have h9:t = 12:=by simpa using ht
  subst h9
  show (12:Nat) < 35
  decide
 ·intro t v hv
  obtain ⟨q,hq,rfl⟩:=getT_mem hv
  simp only [List.mem_cons,List.not_mem_nil,or_false] at hq
  rcases hq with rfl | rfl | rfl
  ·exact fn_lt hct
  ·exact .bp (show (3:Nat) < 6 by decide)
  ·exact .bp (show (2:Nat) < 6 by decide)
 ·rintro i st rfl
  refine ⟨rfl,fun x hx=>?_,sameLoops_of _ _ rfl⟩
  simp only [List.mem_cons,List.not_mem_nil,or_false] at hx
  rcases hx with rfl | rfl | rfl | rfl | rfl
  ·exact varLt hct
  ·refine ⟨fun c hc=>?_,fun c hc=>?_⟩
   ·exact (lt_of_closedL _ (keyB_all _) c hc).mono (Nat.zero_le _)
   ·obtain ⟨q,_,rfl⟩:=List.mem_map.1 hc
    exact (lt_of_closed (.agg []) rfl).mono (Nat.zero_le _)
  ·exact fun c hc=>by
    simp only [List.mem_cons,List.not_mem_nil,or_false] at hc
    subst hc
    exact .mp (show (1:Nat) < 6 by decide)
  ·exact fun c hc=>by
    simp only [List.mem_cons,List.not_mem_nil,or_false] at hc
    subst hc
    exact .ms (show (4:Nat) < 6 by decide)
  ·exact rowLt (closedL_slx _)
 ·rintro i e st he rfl
  obtain ⟨d,hd,rfl⟩:∃ d,T[i]? = some d∧e = [ddV d]:=by
   rw [List.getElem?_map,Option.map_eq_some_iff] at he
   obtain ⟨d,a,rfl⟩:=he
   exact ⟨d,a,rfl⟩
  have htk:=hWs i d hd
  have hUl:=hWl i
  have hUn:=hWn i
  have hU10:=hW10 i
  have hdp:=(hTp d (List.mem_of_getElem? hd)).1
  refine .next _ rfl fun own ho=>?_
  rw [htk]
  generalize W i = U at hUl hUn hU10 ⊢
  have hdd:ddV d = .agg [.sl .a ((intsN d.1).map ii),.sl .a (d.2.map ii)]:=rfl
  rw [hdd]
  generalize d.2 = p at hdp ⊢
  have ga0:=app_get0 own
  have ga:=app_get own
  have gs0:=app_set0 own
  have gs:=app_set own
  have hdi:=decIs p
  have hc1:=closedL_is p
  have hko:=keyB_ok p
  rw [T_191,keyB_def] at hko
  have hs1:slx p = .sl .a (p.map ii):=rfl
  unfold YRun
  generalize hX:Box.loop _ = X1
  repeat (with_reducible (first | apply nx | apply wQ rfl | ((first | apply wV | apply wW | apply wX | (apply wy cfX1_ok;(focus kernel_rfl)));(focus (simp only [Tryz.f89,putPs,List.toList_toArray,ga0,ga,gs0,gs,go_sem];rfl))) | refine wz cfX1_ok ?_ | (refine wa ?_;refine And.intro ?_ ?_;(focus kernel_rfl))))
  refine ⟨rfl,own ++ [.var [.sl .a ((intsN d.1).map ii),.sl .a (p.map ii)] false],by rw [← hX];rfl,?_⟩
  dsimp only
  generalize hX2:Box.loop _ = X2
  by_cases hp:p ∈ U
  ·obtain ⟨j,e1,e2⟩:=findB_in hdp U 0 hU10 hUn hp
   rw [T_191,keyB_def] at e1
   have e3:(U.map fun _=>PV.agg [])[0 + j]? = some (.agg []):=by
    rw [Nat.zero_add,List.getElem?_map,List.getElem?_eq_getElem e2];rfl
   generalize 0 + j = jj at e1 e3
   unfold addU
   rw [if_pos hp]
   repeat (with_reducible (first | apply nx | apply wQ rfl | ((first | apply wV | apply wW | apply wX | (apply wy cfX1_ok;(focus kernel_rfl)));(focus (simp only [Tryz.f89,cfX1,c150,hdi,hdp,hc1,keyB_def,hko,e1,e3,lookupC,mapC,ga0,ga,gs0,gs,List.length_map,go_sem];rfl))) | refine wz cfX1_ok ?_ | (refine wa ?_;refine And.intro ?_ ?_;(focus kernel_rfl))))
   exact ⟨rfl,[.var [.sl .a ((intsN d.1).map ii),.sl .a (p.map ii)] false,.var (keyB p).cells false,.var [] false],rfl⟩
  ·have e1:=findB_not hdp U 0 hU10 hp
   rw [T_191,keyB_def] at e1
   have q1:(U.length + 1) * 24 ≤ 140737488355328:=by omega
   have q2:U.length + 1 ≤ maxLen:=by unfold maxLen;omega
   unfold addU
   rw [if_neg hp]
   repeat (with_reducible (first | apply nx | apply wQ rfl | ((first | apply wV | apply wW | apply wX | (apply wy cfX1_ok;(focus kernel_rfl)));(focus (simp only [Tryz.f89,cfX1,c150,hdi,hdp,hc1,keyB_def,hko,e1,q1,q2,lookupC,mapUpdateC,mapC,ga0,ga,gs0,gs,List.length_map,go_sem];rfl))) | refine wz cfX1_ok ?_ | (refine wa ?_;refine And.intro ?_ ?_;(focus kernel_rfl))))
   refine ⟨rfl,[.var [.sl .a ((intsN d.1).map ii),.sl .a (p.map ii)] false,.var (keyB p).cells false,.var [] false,.dead],?_⟩
   have hz:decide ((U ++ [p]).length = 0) = false:=by simp
   rw [hz,List.map_append,List.map_append,List.map_append,List.length_append]
   rfl
 ·rintro st rfl
  rw [List.length_map]
  have hUn:=hWn T.length
  have hUl:=hWl T.length
  have hU10:=hW10 T.length
  generalize W T.length = U at hUn hUl hU10 ⊢
  have hPl:=playsL_len hUn
  have hsort:CallOk Tryz.prog 151 [.ms 4 U.length,.fn (.func 108) [] []] [.var s.told false,.map (U.map keyB) (U.map fun _=>.agg []) false,.var [.mp 1] false,.var [.ms 4 U.length] false,.row (decide (U.length = 0)) 26 1 (U.map slx) false,.gone] (.ret (.tuple []))
   [.var s.told false,.map (U.map keyB) (U.map fun _=>.agg []) false,.var [.mp 1] false,.var [.ms 4 U.length] false,.row (decide (U.length = 0)) 26 1 ((playsL U).map slx) false,.gone]:=by
   by_cases hU:U = []
   ·subst hU
    exact sortNone_151 (bi:=4) rfl
   ·have hd:decide (U.length = 0) = false:=by simp [hU]
    rw [hd]
    exact sort_151 (bi:=4) hU hUn (by omega) (fun x hx=>by have:=hU10 x hx;unfold maxLen;omega) rfl
  have hsl:SameLoops [.var s.told false,.map (U.map keyB) (U.map fun _=>.agg []) false,.var [.mp 1] false,.var [.ms 4 U.length] false,.row (decide (U.length = 0)) 26 1 (U.map slx) false,.gone] [.var s.told false,.map (U.map keyB) (U.map fun _=>.agg []) false,.var [.mp 1] false,.var [.ms 4 U.length] false,.row (decide (U.length = 0)) 26 1 ((playsL U).map slx) false,.gone]:=sameLoops_of _ _ rfl
  rw [show plsV (playsL U) = .sl (if decide (U.length = 0) = true then .n else .a) ((playsL U).map slx) by unfold plsV;rw [hPl]]
  repeat (with_reducible (first | apply nx | apply wQ rfl | ((first | apply wV | apply wW | apply wX | (apply wy (cfOne_ok cf0_ok (ent Tryz.func151 rfl) hsort hsl);(focus kernel_rfl)));(focus (simp only [Tryz.f89,cfOne,List.length_map,go_sem];rfl))) | refine wz (cfOne_ok cf0_ok (ent Tryz.func151 rfl) hsort hsl) ?_ | (refine wa ?_;refine And.intro ?_ ?_;(focus kernel_rfl))))
  refine ⟨rfl,rfl,_,rfl,?_⟩
  exact leave_row (id:=4) rfl (closedL_slx _) (by rw [List.length_map,hPl])
end Go.Pv
namespace Go.Pv
open Go Go.RowKit Go.Proofs
set_option maxRecDepth 200000
set_option maxHeartbeats 8000000
def decTl:PV→Option Sty
 | .agg [a,b,c,.sl .a ms,.sl .a ls]=>match decSt (.agg [a,b,c]),decL decI ms,decL decI ls with
  | some s,some m,some l=>if m = s.mm∧l = s.ln∧s.story = true then some s else none
  | _,_,_=>none
 | _=>none
theorem decTl_inv {v:PV} {s:Sty} (h:decTl v = some s):v = .agg s.told∧s.ok = true∧s.story = true:=by
 unfold decTl at h
 split at h <;> try (cases h;done)
 split at h <;> try (cases h;done)
 rename_i h1 h2 h3
 split at h <;> cases h
 rename_i hc
 obtain ⟨e,hok⟩:=decSt_inv h1
 obtain rfl:=decL_inv decI_inv h2
 obtain rfl:=decL_inv decI_inv h3
 obtain ⟨e1,e2,e3⟩:=hc
 subst e1;subst e2
 unfold encSt at e
 injection e with e
 injection e with ea e
 injection e with eb e
 injection e with ec _
 subst ea;subst eb;subst ec
 exact ⟨rfl,hok,e3⟩
theorem decTl_told (s:Sty) (hok:s.ok = true) (hst:s.story = true):decTl (.agg s.told) = some s:=by
 show (match decSt (.agg s.cells),decL decI (s.mm.map ii),decL decI (s.ln.map ii) with
  | some s,some m,some l=>if m = s.mm∧l = s.ln∧s.story = true then some s else none
  | _,_,_=>none) = some s
 rw [decSt_cells s hok,decIs,decIs]
 exact if_pos ⟨rfl,rfl,hst⟩
theorem ltB_told (m:Nat) (s:Sty):(PV.agg s.told).ltB m = true:=ltB_of_closed m _ (closed_told s)
def c89:List PV→List Box→Option (PRes × List Box)
 | [v],sg=>match decTl v with
  | some s=>some (.ret (plsV (playsB s.e s.sc s.rl)),sg)
  | none=>none
 | _,_=>none
theorem c89_ok:ConOk Tryz.prog 89 c89:=ConOk.of0 (ent Tryz.func89 rfl) fun args sg r sg' h=>by
 unfold c89 at h
 split at h <;> try (cases h;done)
 split at h <;> cases h
 rename_i s h1
 obtain ⟨rfl,hok,hst⟩:=decTl_inv h1
 exact ⟨_,rfl,rfl,by rw [ltBL_cons,ltB_told];rfl,plays_89 s hok hst⟩
def c91:List PV→List Box→Option (PRes × List Box)
 | [v,p],sg=>match decTl v,decIs1 p with
  | some s,some l=>some (.ret (ofV (ofB (ders s.e s.sc s.rl) l)),sg)
  | _,_=>none
 | _,_=>none
theorem c91_ok:ConOk Tryz.prog 91 c91:=ConOk.of0 (ent Tryz.func91 rfl) fun args sg r sg' h=>by
 unfold c91 at h
 split at h <;> try (cases h;done)
 split at h <;> cases h
 rename_i s l h1 h2
 obtain ⟨rfl,hok,hst⟩:=decTl_inv h1
 obtain ⟨z,rfl,hz⟩:=decIs1_inv h2
 have hz':zOk z (l.map ii) = true:=by
  cases z with
  | n=>rw [hz rfl];rfl
  | a=>rfl
  | f=>rfl
 exact ⟨_,rfl,rfl,by rw [ltBL_cons,ltB_told,ltBL_cons,ltB_isl];rfl,of_91 _ hok hst z _ hz'⟩
def areB (n:Nat) (l:List Int) (a:Int):Bool:=decide (l.length ≤ 10) && l.all fun x=>inB x a ((n:Int) - 1)
theorem are1_153 (s:Sty) (n a:Int) (hs:s.sc.length ≤ 1000):CallOk Tryz.prog 153 [ii n,.ip [ii a],.ip s.cells] [] (.ret (.bool (!inB n a ((s.sc.length:Int) - 1)))) []:=by
 refine CallOk.of0 hTT Tryz.func153 rfl rfl ?_
 have e1:IntKind.i64.wrap ((s.sc.length:Int) - 1) = (s.sc.length:Int) - 1:=wrap_id (by omega) (by omega)
 repeat (with_reducible (first | apply nx | apply wQ rfl | ((first | apply wV | apply wW | apply wX | (apply wy cfN_ok;(focus kernel_rfl)));(focus (simp only [Tryz.f153,cfN,cin,e1,List.length_map,go_sem];rfl))) | refine wz cfN_ok ?_ | (refine wa ?_;refine And.intro ?_ ?_;(focus kernel_rfl))))
 exact ⟨rfl,rfl,_,rfl,rfl⟩
theorem are_90 (s:Sty) (z:Z) (l:List Int) (a:Int) (hz:z = .n→l = []) (hs:s.sc.length ≤ 1000):CallOk Tryz.prog 90 [.agg s.cells,.sl z (l.map ii),ii a] [] (.ret (.bool (areB s.sc.length l a))) []:=by
 refine CallOk.of0 hTT Tryz.func90 rfl rfl ?_
 unfold areB
 repeat (with_reducible (first | ((fail_if_success (refine RunQ.seq (x:=.region 1 _ _) ?_));(apply nx)) | apply wQ rfl | ((first | apply wV | apply wW | apply wX | (apply wy cf0_ok;(focus kernel_rfl)));(focus (simp only [Tryz.f90,go_sem];rfl))) | ((fail_if_success (show RunQ _ (.region 1 _ _) _ _));(refine wz cf0_ok ?_)) | (refine wa ?_;refine And.intro ?_ ?_;(focus kernel_rfl))))
 refine RunQ.fzVar 3 0 rfl rfl rfl rfl ?_
 refine RunQ.fzVar 5 1 rfl rfl rfl rfl ?_
 by_cases hl:l.length ≤ 10
 ·have hl':(l.length:Int) ≤ 10:=by omega
  have hcl:closedL [PV.ip [ii a],.ip s.cells] = true:=by simp [closedL,PV.closed,closedL_sns,closedL_rzs]
  have h152:=contains_152 (g:=153) (cs:=[.ip [ii a],.ip s.cells]) (S:=[]) z l (fun n=>!inB n a ((s.sc.length:Int) - 1)) (ent Tryz.func153 rfl) (fun b hb=>by cases hb) (ltBL_of_closed 0 _ hcl) hz (by omega) (fun x _=>are1_153 s x a hs)
  have hltb:ltBL 0 [PV.sl z (l.map ii),.fn (.func 153) [] [.ip [ii a],.ip s.cells]] = true:=ltBL_of_closed 0 _ (by
   have h1:=closedL_is l
   simp only [closedL,PV.closed,h1] at hcl ⊢
   simpa using hcl)
  rw [← any_not]
  generalize (l.any fun n=>!inB n a ((s.sc.length:Int) - 1)) = b at h152 ⊢
  repeat (with_reducible (first | apply nx | apply wQ rfl | ((first | apply wV | apply wW | apply wX | (apply wy (cfAt_ok cf0_ok (ent Tryz.func152 rfl) h152 hltb);(focus kernel_rfl)));(focus (simp only [Tryz.f90,cfAt,hl',notYield,List.length_map,go_sem];rfl))) | refine wz (cfAt_ok cf0_ok (ent Tryz.func152 rfl) h152 hltb) ?_ | (refine wa ?_;refine And.intro ?_ ?_;(focus kernel_rfl))))
  refine ⟨rfl,rfl,_,rfl,?_⟩
  rw [decide_eq_true hl];rfl
 ·have hl':¬ (l.length:Int) ≤ 10:=by omega
  repeat (with_reducible (first | apply nx | apply wQ rfl | ((first | apply wV | apply wW | apply wX | (apply wy cf0_ok;(focus kernel_rfl)));(focus (simp only [Tryz.f90,hl',notYield,List.length_map,go_sem];rfl))) | refine wz cf0_ok ?_ | (refine wa ?_;refine And.intro ?_ ?_;(focus kernel_rfl))))
  refine ⟨rfl,rfl,_,rfl,?_⟩
  rw [decide_eq_false hl];rfl
def c90:List PV→List Box→Option (PRes × List Box)
 | [v,p,.int .i64 a],sg=>match decSt v,decIs1 p with
  | some s,some l=>if s.sc.length ≤ 1000 then some (.ret (.bool (areB s.sc.length l a)),sg) else none
  | _,_=>none
 | _,_=>none
theorem c90_ok:ConOk Tryz.prog 90 c90:=ConOk.of0 (ent Tryz.func90 rfl) fun args sg r sg' h=>by
 unfold c90 at h
 split at h <;> try (cases h;done)
 rename_i a
 split at h <;> try (cases h;done)
 rename_i h1 h2
 split at h <;> cases h
 rename_i hc
 obtain ⟨rfl,hok⟩:=decSt_inv h1
 obtain ⟨z,rfl,hz⟩:=decIs1_inv h2
 exact ⟨_,rfl,rfl,by rw [ltBL_cons,ltB_st,ltBL_cons,ltB_isl];rfl,are_90 _ z _ a hz hc⟩
end Go.Pv
namespace Go.Pv
open Go Go.RowKit Go.Proofs
set_option maxRecDepth 200000
set_option maxHeartbeats 8000000
def playsR (s:Sty):PV:=if s.story = true then .tuple [plsV (playsB s.e s.sc s.rl),ii 0] else .tuple [.sl .n [],ii 2]
def waysR (s:Sty) (p:List Int):PV:=if (s.story && areB s.sc.length p 0) = true then .tuple [ii ((ofB (ders s.e s.sc s.rl) p).length:Nat),ii 0] else .tuple [ii 0,ii 2]
def rulesR (s:Sty) (p:List Int):PV:=if (s.story && areB s.sc.length p 0) = true then (match ofB (ders s.e s.sc s.rl) p with
 | []=>.tuple [.sl .n [],ii 5]
 | d :: _=>.tuple [.sl .a ((intsN d.1).map ii),ii 0])
 else .tuple [.sl .n [],ii 2]
def cfZ:CallF:=cfAdd (cfAdd (cfAdd (cfAdd (cfAdd cf0 87 c87) 88 c88) 89 c89) 90 c90) 91 c91
theorem cfZ_ok:CallFOk Tryz.prog cfZ:=cfAdd_ok (cfAdd_ok (cfAdd_ok (cfAdd_ok (cfAdd_ok cf0_ok c87_ok) c88_ok) c89_ok) c90_ok) c91_ok
theorem Plays_23 (s:Sty) (hok:s.ok = true):CallOk Tryz.prog 23 [.agg s.cells] [] (.ret (playsR s)) []:=by
 refine CallOk.ofF hTT Tryz.func23 rfl rfl ?_
 have hd:=decSt_cells s hok
 have h1:=closedL_sns s.sc
 have h2:=closedL_rzs s.rz
 unfold playsR
 by_cases hst:s.story = true
 ·rw [if_pos hst]
  have hp:=Sty.story_parts hst
  have hdt:=decTl_told s hok hst
  have h3:=closedL_is s.mm
  have h4:=closedL_is s.ln
  repeat (with_reducible (first | apply nx | apply wQ rfl | ((first | apply wV | apply wW | apply wX | (apply wy cfZ_ok;(focus kernel_rfl)));(focus (simp only [Tryz.f23,cfZ,c87,c88,c89,hd,hst,hp,hdt,h1,h2,h3,h4,go_sem];rfl))) | refine wz cfZ_ok ?_ | (refine wa ?_;refine And.intro ?_ ?_;(focus kernel_rfl))))
  exact ⟨rfl,rfl,_,rfl,leave_closed (by simp [tup,PV.closed,closedL,closedL_is,plsV,closedL_slx])⟩
 ·rw [if_neg hst]
  have hst:s.story = false:=by simpa using hst
  repeat (with_reducible (first | apply nx | apply wQ rfl | ((first | apply wV | apply wW | apply wX | (apply wy cfZ_ok;(focus kernel_rfl)));(focus (simp only [Tryz.f23,cfZ,c87,hd,hst,h1,h2,go_sem];rfl))) | refine wz cfZ_ok ?_ | (refine wa ?_;refine And.intro ?_ ?_;(focus kernel_rfl))))
  exact ⟨rfl,rfl,_,rfl,leave_closed (by simp [tup,PV.closed,closedL,closedL_is,plsV,closedL_slx])⟩
theorem Ways_24 (s:Sty) (hok:s.ok = true) (z:Z) (p:List Int) (hz:zOk z (p.map ii) = true):CallOk Tryz.prog 24 [.agg s.cells,.sl z (p.map ii)] [] (.ret (waysR s p)) []:=by
 refine CallOk.of0 hTT Tryz.func24 rfl rfl ?_
 have hd:=decSt_cells s hok
 have h1:=closedL_sns s.sc
 have h2:=closedL_rzs s.rz
 have hdp:decIs1 (.sl z (p.map ii)) = some p:=decIs1_enc hz
 have hcp:=closedL_is p
 unfold waysR
 by_cases hst:s.story = true
 ·have hS:=Sty.story_ok hst
  have h8:s.sc.length ≤ 1000:=by have:=hS.s8;omega
  by_cases ha:areB s.sc.length p 0 = true
  ·rw [if_pos (by rw [hst,ha];rfl)]
   have hp:=Sty.story_parts hst
   have hdt:=decTl_told s hok hst
   have h3:=closedL_is s.mm
   have h4:=closedL_is s.ln
   have h5:=closedL_dds (ofB (ders s.e s.sc s.rl) p)
   generalize hL:ofB (ders s.e s.sc s.rl) p = L at h5 ⊢
   repeat (with_reducible (first | apply nx | apply wQ rfl | ((first | apply wV | apply wW | apply wX | (apply wy cfZ_ok;(focus kernel_rfl)));(focus (simp only [Tryz.f24,cfZ,c87,c88,c90,c91,hd,hst,hp,hdt,hdp,hcp,ha,h1,h2,h3,h4,h5,h8,hL,ofV,List.length_map,go_sem];rfl))) | refine wz cfZ_ok ?_ | (refine wa ?_;refine And.intro ?_ ?_;(focus kernel_rfl))))
   exact ⟨rfl,rfl,_,rfl,rfl⟩
  ·rw [if_neg (by rw [hst];simpa using ha)]
   have ha:areB s.sc.length p 0 = false:=by simpa using ha
   repeat (with_reducible (first | apply nx | apply wQ rfl | ((first | apply wV | apply wW | apply wX | (apply wy cfZ_ok;(focus kernel_rfl)));(focus (simp only [Tryz.f24,cfZ,c87,c90,hd,hst,hdp,hcp,ha,h1,h2,h8,go_sem];rfl))) | refine wz cfZ_ok ?_ | (refine wa ?_;refine And.intro ?_ ?_;(focus kernel_rfl))))
   exact ⟨rfl,rfl,_,rfl,rfl⟩
 ·rw [if_neg (by simp [hst])]
  have hst:s.story = false:=by simpa using hst
  repeat (with_reducible (first | apply nx | apply wQ rfl | ((first | apply wV | apply wW | apply wX | (apply wy cfZ_ok;(focus kernel_rfl)));(focus (simp only [Tryz.f24,cfZ,c87,hd,hst,h1,h2,go_sem];rfl))) | refine wz cfZ_ok ?_ | (refine wa ?_;refine And.intro ?_ ?_;(focus kernel_rfl))))
  exact ⟨rfl,rfl,_,rfl,rfl⟩
theorem Rules_25 (s:Sty) (hok:s.ok = true) (z:Z) (p:List Int) (hz:zOk z (p.map ii) = true):CallOk Tryz.prog 25 [.agg s.cells,.sl z (p.map ii)] [] (.ret (rulesR s p)) []:=by
 refine CallOk.ofF hTT Tryz.func25 rfl rfl ?_
 have hd:=decSt_cells s hok
 have h1:=closedL_sns s.sc
 have h2:=closedL_rzs s.rz
 have hdp:decIs1 (.sl z (p.map ii)) = some p:=decIs1_enc hz
 have hcp:=closedL_is p
 unfold rulesR
 by_cases hst:s.story = true
 ·have hS:=Sty.story_ok hst
  have h8:s.sc.length ≤ 1000:=by have:=hS.s8;omega
  by_cases ha:areB s.sc.length p 0 = true
  ·rw [if_pos (by rw [hst,ha];rfl)]
   have hp:=Sty.story_parts hst
   have hdt:=decTl_told s hok hst
   have h3:=closedL_is s.mm
   have h4:=closedL_is s.ln
   have h5:=closedL_dds (ofB (ders s.e s.sc s.rl) p)
   generalize hL:ofB (ders s.e s.sc s.rl) p = L at h5 ⊢
   cases L with
   | nil =>
    repeat (with_reducible (first | apply nx | apply wQ rfl | ((first | apply wV | apply wW | apply wX | (apply wy cfZ_ok;(focus kernel_rfl)));(focus (simp only [Tryz.f25,cfZ,c87,c88,c90,c91,hd,hst,hp,hdt,hdp,hcp,ha,h1,h2,h3,h4,h5,h8,hL,ofV,List.length_map,go_sem];rfl))) | refine wz cfZ_ok ?_ | (refine wa ?_;refine And.intro ?_ ?_;(focus kernel_rfl))))
    exact ⟨rfl,rfl,_,rfl,leave_closed (by simp [tup,PV.closed,closedL,closedL_is,plsV,closedL_slx])⟩
   | cons d L =>
    have hne:((((L.length + 1:Nat):Int)) == 0) = false:=by simp;omega
    have hdd:ddV d = .agg [.sl .a ((intsN d.1).map ii),.sl .a (d.2.map ii)]:=rfl
    have hzd:decide (L.length + 1 = 0) = false:=by simp
    have ez:(Z.a = Z.n) = False:=by simp
    repeat (with_reducible (first | apply nx | apply wQ rfl | ((first | apply wV | apply wW | apply wX | (apply wy cfZ_ok;(focus kernel_rfl)));(focus (simp only [Tryz.f25,cfZ,c87,c88,c90,c91,hd,hst,hp,hdt,hdp,hcp,ha,h1,h2,h3,h4,h5,h8,hL,ofV,hne,hdd,hzd,ez,List.length_map,go_sem];rfl))) | refine wz cfZ_ok ?_ | (refine wa ?_;refine And.intro ?_ ?_;(focus kernel_rfl))))
    exact ⟨rfl,rfl,_,rfl,leave_closed (by simp [tup,PV.closed,closedL,closedL_is,plsV,closedL_slx])⟩
  ·rw [if_neg (by rw [hst];simpa using ha)]
   have ha:areB s.sc.length p 0 = false:=by simpa using ha
   repeat (with_reducible (first | apply nx | apply wQ rfl | ((first | apply wV | apply wW | apply wX | (apply wy cfZ_ok;(focus kernel_rfl)));(focus (simp only [Tryz.f25,cfZ,c87,c90,hd,hst,hdp,hcp,ha,h1,h2,h8,go_sem];rfl))) | refine wz cfZ_ok ?_ | (refine wa ?_;refine And.intro ?_ ?_;(focus kernel_rfl))))
   exact ⟨rfl,rfl,_,rfl,leave_closed (by simp [tup,PV.closed,closedL,closedL_is,plsV,closedL_slx])⟩
 ·rw [if_neg (by simp [hst])]
  have hst:s.story = false:=by simpa using hst
  repeat (with_reducible (first | apply nx | apply wQ rfl | ((first | apply wV | apply wW | apply wX | (apply wy cfZ_ok;(focus kernel_rfl)));(focus (simp only [Tryz.f25,cfZ,c87,hd,hst,h1,h2,go_sem];rfl))) | refine wz cfZ_ok ?_ | (refine wa ?_;refine And.intro ?_ ?_;(focus kernel_rfl))))
  exact ⟨rfl,rfl,_,rfl,leave_closed (by simp [tup,PV.closed,closedL,closedL_is,plsV,closedL_slx])⟩
end Go.Pv
