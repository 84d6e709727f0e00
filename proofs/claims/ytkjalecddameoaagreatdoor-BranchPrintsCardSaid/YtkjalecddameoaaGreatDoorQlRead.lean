/- Contracts: the reference's Read. -/
import Derived.Test.YtkjalecddameoaaGreatDoorQlSplit
import Derived.Test.YtkjalecddameoaaGreatDoorQlAtt
set_option linter.all false
namespace Go.Pv
open Go Go.RowKit Go.Proofs
set_option maxRecDepth 200000
set_option maxHeartbeats 8000000
def readRV (t:List UInt8):PV:=match readB t with
 | some f=>.tuple [rdV f,.bool true]
 | none=>.tuple [zeroV,.bool false]
def c122s:List PV→List Box→Option (PRes × List Box)
 | [.str s,.int .u8 n],sg=>if s.length ≤ 100000∧0 ≤ n∧n ≤ 255 then some (.ret (.sl .a ((splF (UInt8.ofNat n.toNat) s).map PV.str)),sg) else none
 | _,_=>none
theorem c122s_ok:ConOk Tryz.prog 122 c122s:=ConOk.of0 (ent Tryz.func122 rfl) fun args sg r sg' h=>by
 unfold c122s at h
 split at h <;> try (cases h;done)
 split at h <;> cases h
 rename_i s n hc
 have:=Split_122 s (UInt8.ofNat n.toNat) hc.1
 have e:(((UInt8.ofNat n.toNat).toNat:Nat):Int) = n:=by rw [UInt8.toNat_ofNat'];omega
 rw [e] at this
 exact ⟨_,rfl,rfl,rfl,this⟩
def cfQ5:CallF:=cfAdd (cfAdd (cfAdd cf0 122 c122s) 123 c123) 59 (conSnap c59)
theorem cfQ5_ok:CallFOk Tryz.prog cfQ5:=cfAdd_ok (cfAdd_ok (cfAdd_ok cf0_ok c122s_ok) c123_ok) c59_ok.snap
theorem bookR_len {k:Nat} {V:List (List UInt8)} {f:Int × List Sn × List Rl} (h:bookR V = some f) (hk:∀ r ∈ V,r.length ≤ k):f.2.1.length + f.2.2.length ≤ V.length∧∀ r ∈ f.2.2,r.to.length ≤ k:=by
 cases V with
 | nil=>cases h;exact ⟨Nat.le_refl _,fun r hr=>by cases hr⟩
 | cons r R =>
  have h:(match numsU (splF 32 r).tail,rowsR R with | some [e],some f=>some (e,f) | _,_=>none) = some f:=h
  split at h <;> try (cases h;done)
  rename_i e g h1 h2
  cases h
  obtain ⟨a,b⟩:=rowsR_len h2 fun x hx=>hk x (List.mem_cons_of_mem _ hx)
  exact ⟨by rw [List.length_cons];dsimp only;omega,b⟩
theorem RRead_61 (t:List UInt8) (ht:t.length ≤ 500):CallOk Tryz.prog 61 [.str t] [] (.ret (readRV t)) []:=by
 refine CallOk.ofF hTT Tryz.func61 rfl rfl ?_
 have hE:readB t = (match bookR ((splF 10 t).take ((splF 10 t).length - 2)) with
  | some f=>if textB f.1 f.2.1 f.2.2 = t then some f else none
  | none=>none):=rfl
 have hW:=splF_len 10 t
 have hWe:∀ x ∈ splF 10 t,x.length ≤ 500:=fun x hx=>by have:=splF_each hx;omega
 have h10:UInt8.ofNat 10 = 10:=rfl
 have h32:UInt8.ofNat 32 = 32:=rfl
 have ht':t.length ≤ 100000:=by omega
 have hall:∀ (B:List (List UInt8)),(B.map PV.str).all (fun y=>y.cells.length == 1) = true:=fun B=>by rw [List.all_map];exact List.all_eq_true.2 fun _ _=>rfl
 simp only [PV.cells] at hall
 have htl:∀ r:List UInt8,∃ w0 ws,splF 32 r = w0 :: ws:=fun r=>by
  have:=splF_len 32 r
  cases h:splF 32 r with
  | nil=>rw [h] at this;simp at this
  | cons a b=>exact ⟨a,b,rfl⟩
 have hsl1:∀ (w0:List UInt8) (ws:List (List UInt8)),(((w0 :: ws).map PV.str).drop 1).take ((w0 :: ws).length - 1) = ws.map PV.str:=fun w0 ws=>by
  rw [List.map_cons,List.drop_succ_cons,List.drop_zero]
  exact List.take_of_length_le (by simp)
 generalize hWW:splF 10 t = W at hE hW hWe
 repeat (with_reducible (first | apply nx | apply wQ rfl | ((first | apply wV | apply wW | apply wX | (apply wy cfQ5_ok;(focus kernel_rfl)));(focus (simp only [Tryz.f61,cfQ5,c122s,ht',h10,hWW,go_sem];rfl))) | refine wz cfQ5_ok ?_ | (refine wa ?_;refine And.intro ?_ ?_;(focus kernel_rfl))))
 refine RunQ.keep [6,5,4,2,0] (by simp only [go_sem];rfl) ?_
 refine RunQ.nilBox 1 1 120 5 rfl rfl rfl ?_
 refine RunQ.nilBox 1 2 80 2 rfl rfl rfl ?_
 have e2:IntKind.i64.wrap (((W.length:Nat):Int) - 2) = ((W.length:Nat):Int) - 2:=wrap_id (by omega) (by omega)
 have hVg:∀ i,i < W.length - 2→(W.take (W.length - 2))[i]? = W[i]?:=fun i h=>List.getElem?_take_of_lt h
 have hVl:(W.take (W.length - 2)).length = W.length - 2:=by rw [List.length_take];omega
 have hVe:∀ x ∈ W.take (W.length - 2),x.length ≤ 500:=fun x hx=>hWe x (List.mem_of_mem_take hx)
 generalize W.take (W.length - 2) = V at hE hVg hVl hVe
 refine RunQ.loop (fun i s'=>∃ (e:Int) (S:List Sn) (R:List Rl),((i = 0∧e = 0∧S = []∧R = []) ∨ (1 ≤ i∧∃ v0 V',V = v0 :: V'∧numsU (splF 32 v0).tail = some [e]∧(rowsR V' = match rowsR (V'.drop (i - 1)) with
  | some f=>some (S ++ f.1,R ++ f.2)
  | none=>none)))∧S.length ≤ i∧R.length ≤ i∧s' = ⟨[(6,ii (i:Int)),(5,.sl .a (W.map PV.str)),(4,.bp 1 0),(2,.bp 0 0),(0,.str t)],123,[.var [ii 0,.sl .n [],.sl .n []] false,.var [ii e,.ms 2 S.length,.ms 3 R.length] false,.row (decide (S.length = 0)) 120 5 (S.map encSn) false,.row (decide (R.length = 0)) 80 2 ((R.map rdZ).map encRz) false]⟩) (W.length - 2) ⟨0,[],[],.inl ⟨rfl,rfl,rfl,rfl⟩,Nat.zero_le _,Nat.zero_le _,by first | (simp only [go_sem];done) | (simp only [go_sem];rfl) | rfl⟩ ?_
 rintro i _ hi ⟨e,S,R,hinv,hSl,hRl,rfl⟩
 by_cases hlt:i < W.length - 2
 ·obtain ⟨r,hr⟩:∃ r,W[i]? = some r:=⟨_,List.getElem?_eq_getElem (by omega)⟩
  have hr':(W.map PV.str)[i]? = some (.str r):=by rw [List.getElem?_map,hr];rfl
  have hVr:V[i]? = some r:=by rw [hVg i hlt,hr]
  have hlt':(i:Int) < ((W.length:Nat):Int) - 2:=by omega
  have hlt2:(i:Int) < ((W.length:Nat):Int):=by omega
  have hrl:r.length ≤ 100000:=by have:=hWe r (List.mem_of_getElem? hr);omega
  have e4:IntKind.i64.wrap ((i:Int) + 1) = ((i + 1:Nat):Int):=wrap_id (by omega) (by omega)
  obtain ⟨w0,ws,hv⟩:=htl r
  have hvl:=splF_len 32 r
  have hve:∀ y ∈ splF 32 r,y.length ≤ 100000:=fun y hy=>by have:=splF_each hy;omega
  rw [hv] at hvl hve
  have hR:∀ rest,rowsR (r :: rest) = (if (w0 = scW ∨ w0 = baW)∧(w0 :: ws).length = 5 then
   match numsU (((w0 :: ws).drop 1).take 3),rowsR rest with
   | some n,some f=>some (sceneW (w0 :: ws) n :: f.1,f.2)
   | _,_=>none
   else match numsU ws,rowsR rest with
    | some (n :: l),some f=>some (f.1,⟨n,l⟩ :: f.2)
    | _,_=>none):=fun rest=>by rw [rowsR,hv];rfl
  have bad:(i = 0→∀ x,numsU ws ≠ some [x])→(0 < i→∀ rest,rowsR (r :: rest) = none)→readRV t = .tuple [zeroV,.bool false]:=fun h1 h2=>by
   have hN:bookR V = none:=by
    rcases hinv with ⟨h0,_⟩ | ⟨h0,v0,V',hVV,hv0,hm⟩
    ·obtain ⟨V',hVV⟩:∃ V',V = r :: V':=by
      cases V with
      | nil=>simp at hVr
      | cons v0 V' =>
       rw [h0] at hVr
       obtain rfl:v0 = r:=by simpa using hVr
       exact ⟨V',rfl⟩
     rw [hVV]
     show (match numsU (splF 32 r).tail,rowsR V' with | some [e],some f=>some (e,f) | _,_=>none) = none
     rw [hv,List.tail_cons]
     have h1:=h1 h0
     cases hn:numsU ws with
     | none=>rfl
     | some l =>
      match l,hn with
      | [],_=>rfl
      | [x],hn=>exact absurd hn (h1 x)
      | _ :: _ :: _,_=>rfl
    ·have hx:V'[i - 1]? = some r:=by
      rw [hVV] at hVr
      obtain ⟨j,rfl⟩:∃ j,i = j + 1:=⟨i - 1,by omega⟩
      simpa using hVr
     rw [drop_get hx,h2 (by omega)] at hm
     rw [hVV]
     show (match numsU (splF 32 v0).tail,rowsR V' with | some [e],some f=>some (e,f) | _,_=>none) = none
     rw [hm,hv0]
   rw [hN] at hE
   have hE:readB t = none:=hE
   unfold readRV
   rw [hE]
  have good:∀ (e':Int) (S':List Sn) (R':List Rl),(0 < i∧e' = e∧(∀ rest,rowsR (r :: rest) = match rowsR rest with | some f=>some (S' ++ f.1,R' ++ f.2) | none=>none))→1 ≤ i + 1∧∃ v0 V',V = v0 :: V'∧numsU (splF 32 v0).tail = some [e']∧(rowsR V' = match rowsR (V'.drop (i + 1 - 1)) with
   | some f=>some ((S ++ S') ++ f.1,(R ++ R') ++ f.2)
   | none=>none):=fun e' S' R' ⟨h0,he,h1⟩=>by
   subst he
   rcases hinv with ⟨h9,_⟩ | ⟨_,v0,V',hVV,hv0,hm⟩
   ·omega
   ·have hx:V'[i - 1]? = some r:=by
     rw [hVV] at hVr
     obtain ⟨j,rfl⟩:∃ j,i = j + 1:=⟨i - 1,by omega⟩
     simpa using hVr
    refine ⟨by omega,v0,V',hVV,hv0,?_⟩
    rw [hm,drop_get hx,h1,show i - 1 + 1 = i + 1 - 1 by omega]
    cases rowsR (V'.drop (i + 1 - 1)) with
    | some f=>simp
    | none=>rfl
  have first:i = 0→∀ x,numsU ws = some [x]→S = []∧R = []∧(1 ≤ i + 1∧∃ v0 V',V = v0 :: V'∧numsU (splF 32 v0).tail = some [x]∧(rowsR V' = match rowsR (V'.drop (i + 1 - 1)) with
   | some f=>some (([]:List Sn) ++ f.1,([]:List Rl) ++ f.2)
   | none=>none)):=fun h0 x hx=>by
   rcases hinv with ⟨_,_,hS,hR⟩ | ⟨h9,_⟩
   ·refine ⟨hS,hR,by omega,?_⟩
    obtain ⟨V',hVV⟩:∃ V',V = r :: V':=by
     cases V with
     | nil=>simp at hVr
     | cons v0 V' =>
      rw [h0] at hVr
      obtain rfl:v0 = r:=by simpa using hVr
      exact ⟨V',rfl⟩
    refine ⟨r,V',hVV,by rw [hv];exact hx,?_⟩
    rw [h0,show 0 + 1 - 1 = 0 from rfl,List.drop_zero]
    cases rowsR V' <;> rfl
   ·omega
  have q1:S.length + 1 ≤ maxLen:=by unfold maxLen;omega
  have q2:(S.length + 1) * 32 ≤ 140737488355328:=by omega
  have q3:R.length + 1 ≤ maxLen:=by unfold maxLen;omega
  have q4:(R.length + 1) * 32 ≤ 140737488355328:=by omega
  clear hinv hVg hVr
  by_cases hsc:((w0 = scW ∨ w0 = baW)∧(w0 :: ws).length = 5)∧0 < i
  ·obtain ⟨⟨hw,hl5⟩,hi0⟩:=hsc
   have hig:(0:Int) < (i:Int):=by omega
   obtain ⟨w1,w2,w3,w4,rfl⟩:∃ w1 w2 w3 w4,ws = [w1,w2,w3,w4]:=by
    match ws,hl5 with
    | [a,b,c,d],_=>exact ⟨a,b,c,d,rfl⟩
   have hv:splF 32 r = [w0,w1,w2,w3,w4]:=hv
   have hR:∀ rest,rowsR (r :: rest) = (match numsU [w1,w2,w3],rowsR rest with
    | some n,some f=>some (sceneW [w0,w1,w2,w3,w4] n :: f.1,f.2)
    | _,_=>none):=fun rest=>by rw [hR,if_pos ⟨hw,rfl⟩];rfl
   have k6:decL decS [.str w1,.str w2,.str w3] = some [w1,w2,w3]:=rfl
   have u1:=hve w1 (by simp)
   have u2:=hve w2 (by simp)
   have u3:=hve w3 (by simp)
   have hb5:(((5:Nat):Int) == 5) = true:=rfl
   have hwb:(w0 == [115,99,101,110,101]) = true ∨ ((w0 == [115,99,101,110,101]) = false∧(w0 == [98,97,116,116,108,101]) = true):=by
    by_cases h:w0 = scW
    ·exact .inl (beq_iff_eq.2 h)
    ·exact .inr ⟨beq_eq_false_iff_ne.2 h,beq_iff_eq.2 (hw.elim (fun k=>absurd k h) id)⟩
   cases hT:numsU [w1,w2,w3] with
   | none =>
    have hnum:numsR [w1,w2,w3] = .tuple [.sl .n [],.bool false]:=by unfold numsR;rw [hT]
    rw [bad (fun h=>by omega) (fun _ rest=>by rw [hR,hT])]
    rcases hwb with p1 | ⟨p1,p2⟩
    ·repeat (with_reducible (first | apply nx | apply wQ rfl | ((first | apply wV | apply wW | apply wX | (apply wy cfQ5_ok;(focus kernel_rfl)));(focus (simp only [Tryz.f61,cfQ5,c122s,c123,h32,e2,hlt',hlt2,hr',hrl,hv,p1,hb5,hig,k6,u1,u2,u3,hnum,imp_self,false_implies,gt_iff_lt,List.length_map,go_sem];rfl))) | refine wz cfQ5_ok ?_ | (refine wa ?_;refine And.intro ?_ ?_;(focus kernel_rfl))))
     exact ⟨rfl,rfl,_,rfl,leave_closed rfl⟩
    ·repeat (with_reducible (first | apply nx | apply wQ rfl | ((first | apply wV | apply wW | apply wX | (apply wy cfQ5_ok;(focus kernel_rfl)));(focus (simp only [Tryz.f61,cfQ5,c122s,c123,h32,e2,hlt',hlt2,hr',hrl,hv,p1,p2,hb5,hig,k6,u1,u2,u3,hnum,imp_self,false_implies,gt_iff_lt,List.length_map,go_sem];rfl))) | refine wz cfQ5_ok ?_ | (refine wa ?_;refine And.intro ?_ ?_;(focus kernel_rfl))))
     exact ⟨rfl,rfl,_,rfl,leave_closed rfl⟩
   | some n =>
    have hn3:=(numsU_small hT).1
    obtain ⟨a,b,c,rfl⟩:∃ a b c,n = [a,b,c]:=by
     match n,hn3 with
     | [a,b,c],_=>exact ⟨a,b,c,rfl⟩
    have hnum:numsR [w1,w2,w3] = .tuple [.sl .a [ii a,ii b,ii c],.bool true]:=by unfold numsR;rw [hT];rfl
    have hsn:sceneW [w0,w1,w2,w3,w4] [a,b,c] = ⟨a,b,c,w0 == baW,w4 == [33]⟩:=by
     unfold sceneW
     rw [beq_dec w0 baW,beq_dec w4 [33]]
     rfl
    have hgo:=good e [⟨a,b,c,w0 == baW,w4 == [33]⟩] [] ⟨hi0,rfl,fun rest=>by rw [hR,hT];cases rowsR rest <;> simp [hsn]⟩
    have hba:(w0 == [98,97,116,116,108,101]) = (w0 == baW):=rfl
    rw [hba] at hwb
    generalize (w0 == baW) = lo at hba hwb hgo
    generalize hfo:(w4 == [33]) = fo at hgo
    rw [List.append_nil] at hgo
    have hd1:decide (S.length + 1 = 0) = false:=by simp
    rcases hwb with p1 | ⟨p1,p2⟩
    ·repeat (with_reducible (first | apply nx | apply wQ rfl | ((first | apply wV | apply wW | apply wX | (apply wy cfQ5_ok;(focus kernel_rfl)));(focus (simp only [Tryz.f61,cfQ5,c122s,c123,h32,e2,e4,hlt',hlt2,hr',hrl,hv,p1,hba,hfo,hb5,hig,k6,u1,u2,u3,hnum,q1,q2,imp_self,false_implies,gt_iff_lt,List.length_map,go_sem];rfl))) | refine wz cfQ5_ok ?_ | (refine wa ?_;refine And.intro ?_ ?_;(focus kernel_rfl))))
     refine roundQ.t 4 [6,5,4,2,0] hlt (by simp only [ltB_strs,ltB_sns,ltB_rzs,ltBL_app,go_sem]) ⟨e,S ++ [⟨a,b,c,lo,fo⟩],R,.inr hgo,by simp;omega,by omega,by rw [List.map_append,List.length_append];first | (simp only [hd1,go_sem];done) | (simp only [hd1,go_sem];rfl) | rfl⟩
    ·subst p2
     repeat (with_reducible (first | apply nx | apply wQ rfl | ((first | apply wV | apply wW | apply wX | (apply wy cfQ5_ok;(focus kernel_rfl)));(focus (simp only [Tryz.f61,cfQ5,c122s,c123,h32,e2,e4,hlt',hlt2,hr',hrl,hv,p1,hba,hfo,hb5,hig,k6,u1,u2,u3,hnum,q1,q2,imp_self,false_implies,gt_iff_lt,List.length_map,go_sem];rfl))) | refine wz cfQ5_ok ?_ | (refine wa ?_;refine And.intro ?_ ?_;(focus kernel_rfl))))
     refine roundQ.t 4 [6,5,4,2,0] hlt (by simp only [ltB_strs,ltB_sns,ltB_rzs,ltBL_app,go_sem]) ⟨e,S ++ [⟨a,b,c,true,fo⟩],R,.inr hgo,by simp;omega,by omega,by rw [List.map_append,List.length_append];first | (simp only [hd1,go_sem];done) | (simp only [hd1,go_sem];rfl) | rfl⟩
  ·have y0:(0:Int) < (((w0 :: ws).length:Nat):Int):=by rw [List.length_cons];omega
   have y1:((w0 :: ws).map PV.str)[0]? = some (.str w0):=rfl
   have k1:(1:Int) ≤ (((w0 :: ws).length:Nat):Int):=by rw [List.length_cons];omega
   have k2:=hsl1 w0 ws
   have k3:=hall (w0 :: ws)
   have k4:(ws.all fun r=>decide (r.length ≤ 100000)) = true:=List.all_eq_true.2 fun y hy=>decide_eq_true (hve y (List.mem_cons_of_mem _ hy))
   have k5:ws.length ≤ 100000:=by rw [List.length_cons] at hvl;omega
   have k6:=decSs_map ws
   have k7:=closedL_strs ws
   unfold decSs at k6
   have hR:0 < i→∀ rest,rowsR (r :: rest) = (match numsU ws,rowsR rest with
    | some (n :: l),some f=>some (f.1,⟨n,l⟩ :: f.2)
    | _,_=>none):=fun h0 rest=>by rw [hR,if_neg fun h=>hsc ⟨h,h0⟩]
   have hcase:((w0 == [115,99,101,110,101]) = false∧(w0 == [98,97,116,116,108,101]) = false∧1 = 1∧1 = 1) ∨ ((w0 == [115,99,101,110,101]) = true∧((((w0 :: ws).length:Nat):Int) == 5) = false∧1 = 1∧1 = 1) ∨ ((w0 == [115,99,101,110,101]) = true∧((((w0 :: ws).length:Nat):Int) == 5) = true∧(¬ (0:Int) < (i:Int))∧1 = 1) ∨
    ((w0 == [115,99,101,110,101]) = false∧(w0 == [98,97,116,116,108,101]) = true∧((((w0 :: ws).length:Nat):Int) == 5) = false∧1 = 1) ∨ ((w0 == [115,99,101,110,101]) = false∧(w0 == [98,97,116,116,108,101]) = true∧((((w0 :: ws).length:Nat):Int) == 5) = true∧(¬ (0:Int) < (i:Int))):=by
    by_cases h1:w0 = scW
    ·have g1:(w0 == [115,99,101,110,101]) = true:=beq_iff_eq.2 h1
     by_cases h5:(w0 :: ws).length = 5
     ·exact .inr (.inr (.inl ⟨g1,by rw [h5];rfl,fun h=>hsc ⟨⟨.inl h1,h5⟩,by omega⟩,rfl⟩))
     ·exact .inr (.inl ⟨g1,by rw [beq_eq_false_iff_ne];omega,rfl,rfl⟩)
    ·have g1:(w0 == [115,99,101,110,101]) = false:=beq_eq_false_iff_ne.2 h1
     by_cases h2:w0 = baW
     ·have g2:(w0 == [98,97,116,116,108,101]) = true:=beq_iff_eq.2 h2
      by_cases h5:(w0 :: ws).length = 5
      ·exact .inr (.inr (.inr (.inr ⟨g1,g2,by rw [h5];rfl,fun h=>hsc ⟨⟨.inr h2,h5⟩,by omega⟩⟩)))
      ·exact .inr (.inr (.inr (.inl ⟨g1,g2,by rw [beq_eq_false_iff_ne];omega,rfl⟩)))
     ·exact .inl ⟨g1,beq_eq_false_iff_ne.2 h2,rfl,rfl⟩
   clear hsc
   generalize hVg:w0 :: ws = U at y0 y1 k1 k2 k3 hv hcase
   cases hN:numsU ws with
   | none =>
    have hnum:numsR ws = .tuple [.sl .n [],.bool false]:=by unfold numsR;rw [hN]
    rw [bad (fun _ x h=>by rw [hN] at h;cases h) (fun h rest=>by rw [hR h,hN])]
    rcases hcase with ⟨p1,p2,p3,p4⟩ | ⟨p1,p2,p3,p4⟩ | ⟨p1,p2,p3,p4⟩ | ⟨p1,p2,p3,p4⟩ | ⟨p1,p2,p3,p4⟩
    all_goals
     repeat (with_reducible (first | apply nx | apply wQ rfl | ((first | apply wV | apply wW | apply wX | (apply wy cfQ5_ok;(focus kernel_rfl)));(focus (simp only [Tryz.f61,cfQ5,c122s,c123,h32,e2,hlt',hlt2,hr',hrl,hv,p1,p2,p3,p4,y0,y1,k1,k2,k3,k4,k5,k6,k7,hnum,imp_self,false_implies,gt_iff_lt,List.length_map,go_sem];rfl))) | refine wz cfQ5_ok ?_ | (refine wa ?_;refine And.intro ?_ ?_;(focus kernel_rfl))))
     exact ⟨rfl,rfl,_,rfl,leave_closed rfl⟩
   | some l =>
    cases l with
    | nil =>
     have hnum:numsR ws = .tuple [.sl .n [],.bool true]:=by unfold numsR;rw [hN];rfl
     have hz0:(((0:Nat):Int) == 0) = true:=rfl
     rw [bad (fun _ x h=>by rw [hN] at h;cases h) (fun h rest=>by rw [hR h,hN])]
     rcases hcase with ⟨p1,p2,p3,p4⟩ | ⟨p1,p2,p3,p4⟩ | ⟨p1,p2,p3,p4⟩ | ⟨p1,p2,p3,p4⟩ | ⟨p1,p2,p3,p4⟩
     all_goals
      repeat (with_reducible (first | apply nx | apply wQ rfl | ((first | apply wV | apply wW | apply wX | (apply wy cfQ5_ok;(focus kernel_rfl)));(focus (simp only [Tryz.f61,cfQ5,c122s,c123,h32,e2,hlt',hlt2,hr',hrl,hv,p1,p2,p3,p4,y0,y1,k1,k2,k3,k4,k5,k6,k7,hnum,hz0,imp_self,false_implies,gt_iff_lt,List.length_map,List.length_nil,go_sem];rfl))) | refine wz cfQ5_ok ?_ | (refine wa ?_;refine And.intro ?_ ?_;(focus kernel_rfl))))
      exact ⟨rfl,rfl,_,rfl,leave_closed rfl⟩
    | cons n l =>
     have hnum:numsR ws = .tuple [.sl .a (ii n :: l.map ii),.bool true]:=by unfold numsR;rw [hN];rfl
     have hb0:(0:Int) < ((l.length + 1:Nat):Int):=by omega
     have hb1:(1:Int) ≤ ((l.length + 1:Nat):Int):=by omega
     have hbz:(((l.length + 1:Nat):Int) == 0) = false:=by rw [beq_eq_false_iff_ne];omega
     have hli:=closedL_is l
     by_cases h0:i = 0
     ·have hi0:((i:Int) == 0) = true:=by rw [h0];rfl
      by_cases hl1:l.length = 0
      ·obtain rfl:l = []:=List.length_eq_zero_iff.1 hl1
       have hne:((1:Int) != 1) = false:=rfl
       have hnum:numsR ws = .tuple [.sl .a [ii n],.bool true]:=hnum
       have hbz:((1:Int) == 0) = false:=rfl
       obtain ⟨rfl,rfl,hgo⟩:=first h0 n hN
       rcases hcase with ⟨p1,p2,p3,p4⟩ | ⟨p1,p2,p3,p4⟩ | ⟨p1,p2,p3,p4⟩ | ⟨p1,p2,p3,p4⟩ | ⟨p1,p2,p3,p4⟩
       all_goals
        repeat (with_reducible (first | apply nx | apply wQ rfl | ((first | apply wV | apply wW | apply wX | (apply wy cfQ5_ok;(focus kernel_rfl)));(focus (simp only [Tryz.f61,cfQ5,c122s,c123,h32,e2,e4,hlt',hlt2,hr',hrl,hv,p1,p2,p3,p4,y0,y1,k1,k2,k3,k4,k5,k6,k7,hnum,hne,hbz,hi0,imp_self,false_implies,gt_iff_lt,List.length_map,go_sem];rfl))) | refine wz cfQ5_ok ?_ | (refine wa ?_;refine And.intro ?_ ?_;(focus kernel_rfl))))
        refine roundQ.t 4 [6,5,4,2,0] hlt (by simp only [ltB_strs,ltB_sns,ltB_rzs,go_sem]) ⟨n,[],[],.inr hgo,Nat.zero_le _,Nat.zero_le _,by first | (simp only [go_sem];done) | (simp only [go_sem];rfl) | rfl⟩
      ·have hne:(((l.length + 1:Nat):Int) != 1) = true:=bne_true (by omega)
       rw [bad (fun _ x h=>by rw [hN] at h;injection h with h;injection h with _ h;exact hl1 (by rw [h];rfl)) (fun h=>by omega)]
       rcases hcase with ⟨p1,p2,p3,p4⟩ | ⟨p1,p2,p3,p4⟩ | ⟨p1,p2,p3,p4⟩ | ⟨p1,p2,p3,p4⟩ | ⟨p1,p2,p3,p4⟩
       all_goals
        repeat (with_reducible (first | apply nx | apply wQ rfl | ((first | apply wV | apply wW | apply wX | (apply wy cfQ5_ok;(focus kernel_rfl)));(focus (simp only [Tryz.f61,cfQ5,c122s,c123,h32,e2,hlt',hlt2,hr',hrl,hv,p1,p2,p3,p4,y0,y1,k1,k2,k3,k4,k5,k6,k7,hnum,hne,hbz,hi0,imp_self,false_implies,gt_iff_lt,List.length_map,go_sem];rfl))) | refine wz cfQ5_ok ?_ | (refine wa ?_;refine And.intro ?_ ?_;(focus kernel_rfl))))
        exact ⟨rfl,rfl,_,rfl,leave_closed rfl⟩
     ·have hi0:((i:Int) == 0) = false:=by rw [beq_eq_false_iff_ne];omega
      have hls:((ii n :: l.map ii).drop 1).take (l.length + 1 - 1) = l.map ii:=by
       rw [List.drop_succ_cons,List.drop_zero]
       exact List.take_of_length_le (by simp)
      have hal:(ii n :: l.map ii).all (fun y=>y.cells.length == 1) = true:=List.all_eq_true.2 fun y hy=>by
       rcases List.mem_cons.1 hy with rfl | hy
       ·rfl
       ·obtain ⟨a,_,rfl⟩:=List.mem_map.1 hy;rfl
      simp only [PV.cells] at hal
      have hd1:decide (R.length + 1 = 0) = false:=by simp
      have htk:(l.map ii).take (l.length + 1 - 1) = l.map ii:=List.take_of_length_le (by simp)
      have hgo:=good e [] [⟨n,l⟩] ⟨by omega,rfl,fun rest=>by rw [hR (by omega),hN];cases rowsR rest <;> simp⟩
      rw [List.append_nil] at hgo
      have hcase:((w0 == [115,99,101,110,101]) = false∧(w0 == [98,97,116,116,108,101]) = false∧1 = 1) ∨ ((w0 == [115,99,101,110,101]) = true∧(((U.length:Nat):Int) == 5) = false∧1 = 1) ∨ ((w0 == [115,99,101,110,101]) = false∧(w0 == [98,97,116,116,108,101]) = true∧(((U.length:Nat):Int) == 5) = false):=by
       rcases hcase with ⟨p1,p2,p3,p4⟩ | ⟨p1,p2,p3,p4⟩ | ⟨p1,p2,p3,p4⟩ | ⟨p1,p2,p3,p4⟩ | ⟨p1,p2,p3,p4⟩
       ·exact .inl ⟨p1,p2,p3⟩
       ·exact .inr (.inl ⟨p1,p2,p3⟩)
       ·exfalso;omega
       ·exact .inr (.inr ⟨p1,p2,p3⟩)
       ·exfalso;omega
      rcases hcase with ⟨p1,p2,p3⟩ | ⟨p1,p2,p3⟩ | ⟨p1,p2,p3⟩
      all_goals
       repeat (with_reducible (first | apply nx | apply wQ rfl | ((first | apply wV | apply wW | apply wX | (apply wy cfQ5_ok;(focus kernel_rfl)));(focus (simp only [Tryz.f61,cfQ5,c122s,c123,h32,e2,e4,hlt',hlt2,hr',hrl,hv,p1,p2,p3,y0,y1,k1,k2,k3,k4,k5,k6,k7,hnum,hbz,hb0,hb1,hi0,hls,hal,hli,htk,q3,q4,imp_self,false_implies,gt_iff_lt,List.length_map,go_sem];rfl))) | refine wz cfQ5_ok ?_ | (refine wa ?_;refine And.intro ?_ ?_;(focus kernel_rfl))))
       refine roundQ.t 4 [6,5,4,2,0] hlt (by simp only [ltB_strs,ltB_sns,ltB_rzs,ltB_is,ltBL_app,go_sem]) ⟨e,S,R ++ [⟨n,l⟩],.inr hgo,by omega,by simp;omega,by rw [List.map_append,List.map_append,List.length_append];first | (simp only [hd1,go_sem];done) | (simp only [hd1,go_sem];rfl) | rfl⟩
 ·have hlt':¬ (i:Int) < ((W.length:Nat):Int) - 2:=by omega
  have hF:bookR V = some (e,S,R):=by
   rcases hinv with ⟨h0,rfl,rfl,rfl⟩ | ⟨h0,v0,V',hVV,hv0,hm⟩
   ·have:V = []:=List.eq_nil_of_length_eq_zero (by omega)
    rw [this];rfl
   ·rw [hVV]
    have hVl':V'.length = i - 1:=by rw [hVV,List.length_cons] at hVl;omega
    rw [List.drop_eq_nil_of_le (by omega)] at hm
    have hm:rowsR V' = some (S,R):=by rw [hm];simp [rowsR]
    show (match numsU (splF 32 v0).tail,rowsR V' with | some [e],some f=>some (e,f) | _,_=>none) = _
    rw [hm,hv0]
  have hTh:=bookR_small hF
  have hln:=bookR_len (k:=500) hF hVe
  have hB:BigB e S R:={ hTh with ls:=by have:=hln.1;dsimp only at this;omega,lt:=fun r hr=>by have:=hln.2 r hr;omega }
  rw [hF] at hE
  dsimp only at hE
  have hbb:bigB (rdS e S R).e (rdS e S R).sc (rdS e S R).rl = true:=by rw [rdS_rl];exact big_iff.2 hB
  obtain ⟨zS,hzS⟩:∃ b,b = decide (S.length = 0):=⟨_,rfl⟩
  obtain ⟨zR,hzR⟩:∃ b,b = decide (R.length = 0):=⟨_,rfl⟩
  rw [← hzS,← hzR]
  have hd:decSt (.agg [ii e,.sl (if zS = true then .n else .a) (S.map encSn),.sl (if zR = true then .n else .a) ((R.map rdZ).map encRz)]) = some (rdS e S R):=by rw [hzS,hzR];exact decSt_cells (rdS e S R) (rdS_ok e S R)
  have htx:textB (rdS e S R).e (rdS e S R).sc (rdS e S R).rl = textB e S R:=by rw [rdS_rl];rfl
  have hrv:rdV (e,S,R) = .agg [ii e,.sl (if zS = true then .n else .a) (S.map encSn),.sl (if zR = true then .n else .a) ((R.map rdZ).map encRz)]:=by rw [hzS,hzR];rfl
  clear hzS hzR
  have hc1:=closedL_sns S
  have hc2:=closedL_rzs (R.map rdZ)
  have hLl2:((R.map rdZ).map encRz).length = R.length:=by simp
  clear hinv hVg hVl hF hWe hW hi hlt hTh hln hB
  generalize rdS e S R = s at hbb hd htx
  by_cases hte:textB e S R = t
  ·rw [if_pos hte] at hE
   have hte':(textB s.e s.sc s.rl != t) = false:=by rw [htx,hte];exact bne_self_eq_false _
   unfold readRV
   rw [hE]
   dsimp only
   rw [hrv]
   repeat (with_reducible (first | apply nx | apply wQ rfl | ((first | apply wV | apply wW | apply wX | (apply wy cfQ5_ok;(focus kernel_rfl)));(focus (simp only [Tryz.f61,cfQ5,conSnap,c59,e2,hlt',hbb,hd,hc1,hc2,hte',hLl2,List.length_map,go_sem];rfl))) | refine wz cfQ5_ok ?_ | (refine wa ?_;refine And.intro ?_ ?_;(focus kernel_rfl))))
   exact ⟨rfl,rfl,_,rfl,leave_agr4 (a:=2) (b:=3) rfl rfl (by decide) hc1 hc2 (by rw [List.length_map]) hLl2.symm rfl rfl⟩
  ·rw [if_neg hte] at hE
   have hte':(textB s.e s.sc s.rl != t) = true:=bne_iff_ne.2 (by rw [htx];exact hte)
   unfold readRV
   rw [hE]
   dsimp only
   repeat (with_reducible (first | apply nx | apply wQ rfl | ((first | apply wV | apply wW | apply wX | (apply wy cfQ5_ok;(focus kernel_rfl)));(focus (simp only [Tryz.f61,cfQ5,conSnap,c59,e2,hlt',hbb,hd,hc1,hc2,hte',hLl2,List.length_map,go_sem];rfl))) | refine wz cfQ5_ok ?_ | (refine wa ?_;refine And.intro ?_ ?_;(focus kernel_rfl))))
   exact ⟨rfl,rfl,_,rfl,leave_closed rfl⟩
def c61:List PV→List Box→Option (PRes × List Box)
 | [.str t],sg=>if t.length ≤ 500 then some (.ret (readRV t),sg) else none
 | _,_=>none
theorem c61_ok:ConOk Tryz.prog 61 c61:=ConOk.of0 (ent Tryz.func61 rfl) fun args sg r sg' h=>by
 unfold c61 at h
 split at h <;> try (cases h;done)
 split at h <;> cases h
 rename_i hc
 exact ⟨_,rfl,rfl,rfl,RRead_61 _ hc⟩
end Go.Pv
