import Derived.Test.YtmebonambbhehaaGreatQfLem
set_option linter.all false
open Go.Proofs.Tryz
namespace Go.Pv
open Go Go.RowKit Go.Proofs
set_option maxRecDepth 200000
set_option maxHeartbeats 8000000
theorem o6{P:Program}{c:Code}{st s0:St}{o0:Out}(h:am P c st (fun o s=>o=o0∧s=s0)):Run P c st o0 s0:=by
 obtain⟨o,s,hr,rfl,rfl⟩:=h;exact hr
theorem iE{α:Type}(l:List α)(x y:α):(l++[x]).set l.length y=l++[y]:=by
 rw[Fq _ _ (DS _)];simp
theorem lL{α:Type}(l:List α)(x:α):(l++[x])[l.length]?=some x:=by simp
theorem j5{b:Box}{lr:LoopR}(h:isLoopB b=false)(e:some b=some (Box.loop lr)):False:=by
 injection e with e
 subst e;simp[isLoopB]at h
theorem tU{sg sg2:List Box}{a b:Box}(ha:isLoopB a=false)(hb:isLoopB b=false)(hsl:SameLoops (sg++[a,b]) sg2):SameLoops sg sg2:=by
 refine⟨fun id lr h=>hsl.1 id lr (by rw[DY (DR.1 h).1];exact h),fun id lr h=>?_⟩
 obtain⟨lr',h'⟩:=hsl.2 id lr h;by_cases hid:id<sg.length
 ·rw[DY hid]at h';exact⟨lr',h'⟩
 ·rw[D9 (by omega)]at h'
  have h1:=(DR.1 h').1;simp at h1;have h2:id-sg.length=0∨id-sg.length=1:=by omega
  rcases h2 with e|e
  ·rw[e]at h';exact(j5 ha h').elim
  ·rw[e]at h';exact(j5 hb h').elim
theorem p5{sg:List Box}{n:Nat}{x y:Box}(h:n+1<sg.length):((sg.set n x).set (n+1) y)[n]?=some x:=by
 rw[D8 (by omega),D4 (by omega)]
theorem jE{sg:List Box}{n:Nat}{x y:Box}(h:n+1<sg.length):((sg.set n x).set (n+1) y)[n+1]?=some y:=by
 rw[D4 (by simp;omega)]
theorem app2s{α:Type}(l:List α)(a b x:α):(l++[a,b]).set l.length x=l++[x,b]:=by rw[Fq _ _ (DS _)];simp
theorem vo{α:Type}(l:List α)(a b x:α):(l++[a,b]).set (l.length+1) x=l++[a,x]:=by rw[Fq _ _ (by omega)];simp
theorem qT{sg sg2:List Box}{n:Nat}{a a' b b':Box}(h:SameLoops sg sg2)(h0:sg2[n]?=some a)(h1:sg2[n+1]?=some b)(ha:isLoopB a=false)(hb:isLoopB b=false)(ha':isLoopB a'=false)(hb':isLoopB b'=false):SameLoops sg ((sg2.set n a').set (n+1) b'):=by
 have key:∀id lr,((sg2.set n a').set (n+1) b')[id]?=some (Box.loop lr)↔sg2[id]?=some (Box.loop lr):=fun id lr=>by
  have hl:=(DR.1 h1).1;by_cases e1:n+1=id
  ·subst e1
   rw[jE hl,h1];exact⟨fun e=>(j5 hb' e).elim,fun e=>(j5 hb e).elim⟩
  ·rw[D8 e1]
   by_cases e0:n=id
   ·subst e0
    rw[D4 (by omega),h0]
    exact⟨fun e=>(j5 ha' e).elim,fun e=>(j5 ha e).elim⟩
   ·rw[D8 e0]
 refine⟨fun id lr e=>?_,fun id lr e=>h.2 id lr ((key id lr).1 e)⟩
 obtain⟨lr',h'⟩:=h.1 id lr e;exact⟨lr',(key id lr').2 h'⟩
theorem nC{g:FuncId}{fa cap:List PV}{sg sg2:List Box}{v c d:PV}(he:bC prog g)(hc:ab prog g (fa++([]++cap)) (sg++[.var [ii 0] false,.var [ii 0] false]) (.ret v) sg2)(hsl:SameLoops (sg++[.var [ii 0] false,.var [ii 0] false]) sg2)
 (hb:sg2[sg.length]?=some (.var [c] false)) (hd:sg2[sg.length+1]?=some (.var [d] false)):ab prog 92 [.fn (.func g) fa cap] sg (.ret (.tuple [ii 4,ii 0])) ((sg2.set sg.length (.var [ii 4] false)).set (sg.length+1) (.var [ii 0] false)):=by
 have hlt:sg.length+1<sg2.length:=(DR.1 hd).1;have hd':(sg2.set sg.length (.var [ii 4] false))[sg.length+1]?=some (.var [d] false):=by rw[D8 (by omega)];exact hd
 have hg0:=p5 (x:=.var [ii 4] false) (y:=.var [ii 0] false) hlt;have hg1:=jE (x:=.var [ii 4] false) (y:=.var [ii 0] false) hlt;refine ab.deferring2 (st1:=⟨[(3,.bp (sg.length+1) 0),(2,.bp sg.length 0),(0,.fn (.func g) fa cap)],7,sg++[.var [ii 0] false,.var [ii 0] false]⟩) (st2:=⟨[(6,v),(5,.fn (.func g) fa cap),(4,.fn (.func 119) [] [.bp sg.length 0,.bp (sg.length+1) 0]),(3,.bp (sg.length+1) 0),(2,.bp sg.length 0),(0,.fn (.func g) fa cap)],7,(sg2.set sg.length (.var [ii 4] false)).set (sg.length+1) (.var [ii 0] false)⟩) (m:=.ret)
  (st3:=⟨[(2,.nili),(8,.bool true),(6,.nili),(0,.bp sg.length 0),(1,.bp (sg.length+1) 0)],17,(sg2.set sg.length (.var [ii 4] false)).set (sg.length+1) (.var [ii 0] false)⟩) (idv:=sg.length) (idw:=sg.length+1) hTT func92 rfl func119 rfl rfl (by decide) (ent func119 rfl) ?_ rfl rfl (Eu rfl) ?_ ?_ ?_ ?_ ?_ ?_
 ·exact dJ.regionL hTT (by simp only[gI,iE,app2s,vo,Et,go_sem];rfl)
 ·refine o6 ?_
  repeat with_reducible first|refine nz (ar aa he hc hsl) ?_|apply ny;simp only[f92,cp,hb,hd',EA,go_sem];rfl
  exact⟨rfl,rfl⟩
 ·exact dJ.block (out:=.normal) (dJ.seq (st1:=⟨[(8,.bool true),(6,.nili),(0,.bp sg.length 0),(1,.bp (sg.length+1) 0)],17,(sg2.set sg.length (.var [ii 4] false)).set (sg.length+1) (.var [ii 0] false)⟩) (dJ.regionL hTT rfl) (dJ.cond (b:=true) rfl (dJ.regionL hTT rfl)))
 ·simp only[f92,hg0,hg1,go_sem]
 ·exact qT (tU rfl rfl hsl) hb hd rfl rfl rfl rfl
 ·show sg.length<(sg++[_,_]).length
  simp
 ·show sg.length+1<(sg++[_,_]).length
  simp
theorem nL{g:FuncId}{fa cap:List PV}{sg sg2:List Box}{w c d:PV}(n:Int)(hw:w=.iface 186 (.agg [ii n]))(he:bC prog g)(hc:ab prog g (fa++([]++cap)) (sg++[.var [ii 0] false,.var [ii 0] false]) (.pan w) sg2)(hsl:SameLoops (sg++[.var [ii 0] false,.var [ii 0] false]) sg2)
 (hb:sg2[sg.length]?=some (.var [c] false)) (hd:sg2[sg.length+1]?=some (.var [ii 0] false)):ab prog 92 [.fn (.func g) fa cap] sg (.ret (.tuple [ii n,ii 0])) ((sg2++[Box.var [ii n] false]).set sg.length (.var [ii n] false)):=by
 subst hw;have hlt:sg.length+1<sg2.length:=(DR.1 hd).1;have hb2:(sg2++[Box.var [ii n] false])[sg.length]?=some (.var [c] false):=by rw[DY (by omega)];exact hb
 have hg0:((sg2++[Box.var [ii n] false]).set sg.length (.var [ii n] false))[sg.length]?=some (.var [ii n] false):=D4 (by simp;omega)
 have hg1:((sg2++[Box.var [ii n] false]).set sg.length (.var [ii n] false))[sg.length+1]?=some (.var [ii 0] false):=by rw[D8 (by omega),DY (by omega)];exact hd
 refine ab.deferring2 (st1:=⟨[(3,.bp (sg.length+1) 0),(2,.bp sg.length 0),(0,.fn (.func g) fa cap)],7,sg++[.var [ii 0] false,.var [ii 0] false]⟩) (st2:=⟨[(5,.fn (.func g) fa cap),(4,.fn (.func 119) [] [.bp sg.length 0,.bp (sg.length+1) 0]),(3,.bp (sg.length+1) 0),(2,.bp sg.length 0),(0,.fn (.func g) fa cap)],7,sg2⟩) (m:=.pan (.iface 186 (.agg [ii n])))
  (st3:=⟨[(13,ii n),(12,.bp sg2.length 0),(3,.bp sg2.length 0),(11,.agg [ii n]),(10,.bool true),(9,.tuple [.agg [ii n],.bool true]),(8,.bool false),(6,.iface 186 (.agg [ii n])),(0,.bp sg.length 0),(1,.bp (sg.length+1) 0)],17,(sg2++[Box.var [ii n] false]).set sg.length (.var [ii n] false)⟩) (idv:=sg.length) (idw:=sg.length+1) hTT func92 rfl func119 rfl rfl (by decide) (ent func119 rfl) ?_ rfl rfl (Eu rfl) ?_ ?_ ?_ ?_ ?_ ?_
 ·exact dJ.regionL hTT (by simp only[gI,iE,app2s,vo,Et,go_sem];rfl)
 ·refine o6 ?_
  repeat with_reducible first|refine nz (ar aa he hc hsl) ?_|apply ny;simp only[f92,cp,EA,go_sem];rfl
  refine lx.stop (v:=.iface 186 (.agg [ii n])) (st1:=⟨[(5,.fn (.func g) fa cap),(4,.fn (.func 119) [] [.bp sg.length 0,.bp (sg.length+1) 0]),(3,.bp (sg.length+1) 0),(2,.bp sg.length 0),(0,.fn (.func g) fa cap)],7,sg2⟩) (by simp only[cp,EA,go_sem]) ?_
  repeat with_reducible first|refine nz aa ?_|apply ny;simp only[f92,go_sem];rfl
  exact⟨rfl,rfl⟩
 ·exact dJ.block (out:=.normal) (dJ.seq (st1:=⟨[(8,.bool false),(6,.iface 186 (.agg [ii n])),(0,.bp sg.length 0),(1,.bp (sg.length+1) 0)],17,sg2⟩) (dJ.regionL hTT rfl) (dJ.cond (b:=false) rfl
   (dJ.seq (st1:=⟨[(11,.agg [ii n]),(10,.bool true),(9,.tuple [.agg [ii n],.bool true]),(8,.bool false),(6,.iface 186 (.agg [ii n])),(0,.bp sg.length 0),(1,.bp (sg.length+1) 0)],17,sg2⟩) (dJ.regionL hTT rfl) (dJ.cond (b:=true) rfl
    (dJ.seq (st1:=⟨[(3,.bp sg2.length 0),(11,.agg [ii n]),(10,.bool true),(9,.tuple [.agg [ii n],.bool true]),(8,.bool false),(6,.iface 186 (.agg [ii n])),(0,.bp sg.length 0),(1,.bp (sg.length+1) 0)],17,sg2++[Box.var [ii n] false]⟩) (dJ.regionL hTT (by simp only[gI,iE,lL,go_sem])) (dJ.regionL hTT (by simp only[gI,hb2,lL,go_sem])))))))
 ·simp only[f92,hg0,hg1,go_sem]
 ·exact tU rfl rfl hsl
 ·show sg.length<(sg++[_,_]).length
  simp
 ·show sg.length+1<(sg++[_,_]).length
  simp
theorem nA{g:FuncId}{fa cap:List PV}{sg sg2:List Box}{v c c2 d:PV}(he:bC prog g)(hc:ab prog g (fa++([]++cap)) (sg++[.var [ii 0,ii 0] false,.var [ii 0] false]) (.ret v) sg2)(hsl:SameLoops (sg++[.var [ii 0,ii 0] false,.var [ii 0] false]) sg2)
 (hb:sg2[sg.length]?=some (.var [c,c2] false)) (hd:sg2[sg.length+1]?=some (.var [d] false)):ab prog 99 [.fn (.func g) fa cap] sg (.ret (.tuple [.agg [ii 0,ii 0],ii 0])) ((sg2.set sg.length (.var [ii 0,ii 0] false)).set (sg.length+1) (.var [ii 0] false)):=by
 have hlt:sg.length+1<sg2.length:=(DR.1 hd).1;have hd':(sg2.set sg.length (.var [ii 0,ii 0] false))[sg.length+1]?=some (.var [d] false):=by rw[D8 (by omega)];exact hd
 have hg0:=p5 (x:=.var [ii 0,ii 0] false) (y:=.var [ii 0] false) hlt;have hg1:=jE (x:=.var [ii 0,ii 0] false) (y:=.var [ii 0] false) hlt;refine ab.deferring2 (st1:=⟨[(3,.bp (sg.length+1) 0),(2,.bp sg.length 0),(0,.fn (.func g) fa cap)],8,sg++[.var [ii 0,ii 0] false,.var [ii 0] false]⟩) (st2:=⟨[(7,.agg [ii 0,ii 0]),(6,v),(5,.fn (.func g) fa cap),(4,.fn (.func 126) [] [.bp sg.length 0,.bp (sg.length+1) 0]),(3,.bp (sg.length+1) 0),(2,.bp sg.length 0),(0,.fn (.func g) fa cap)],8,(sg2.set sg.length (.var [ii 0,ii 0] false)).set (sg.length+1) (.var [ii 0] false)⟩) (m:=.ret)
  (st3:=⟨[(2,.nili),(8,.bool true),(6,.nili),(0,.bp sg.length 0),(1,.bp (sg.length+1) 0)],16,(sg2.set sg.length (.var [ii 0,ii 0] false)).set (sg.length+1) (.var [ii 0] false)⟩) (idv:=sg.length) (idw:=sg.length+1) hTT func99 rfl func126 rfl rfl (by decide) (ent func126 rfl) ?_ rfl rfl (Eu rfl) ?_ ?_ ?_ ?_ ?_ ?_
 ·exact dJ.regionL hTT (by simp only[gI,iE,app2s,vo,Et,go_sem];rfl)
 ·refine o6 ?_
  repeat with_reducible first|refine nz (ar aa he hc hsl) ?_|apply ny;simp only[f99,cp,hb,hd',EA,go_sem];rfl
  exact⟨rfl,rfl⟩
 ·exact dJ.block (out:=.normal) (dJ.seq (st1:=⟨[(8,.bool true),(6,.nili),(0,.bp sg.length 0),(1,.bp (sg.length+1) 0)],16,(sg2.set sg.length (.var [ii 0,ii 0] false)).set (sg.length+1) (.var [ii 0] false)⟩) (dJ.regionL hTT rfl) (dJ.cond (b:=true) rfl (dJ.regionL hTT rfl)))
 ·simp only[f99,hg0,hg1,go_sem]
 ·exact qT (tU rfl rfl hsl) hb hd rfl rfl rfl rfl
 ·show sg.length<(sg++[_,_]).length
  simp
 ·show sg.length+1<(sg++[_,_]).length
  simp
theorem nR{g:FuncId}{fa cap:List PV}{sg sg2:List Box}{w c c2 d:PV}(n m:Int)(hw:w=.iface 166 (.agg [ii n,ii m]))(he:bC prog g)(hc:ab prog g (fa++([]++cap)) (sg++[.var [ii 0,ii 0] false,.var [ii 0] false]) (.pan w) sg2)(hsl:SameLoops (sg++[.var [ii 0,ii 0] false,.var [ii 0] false]) sg2)
 (hb:sg2[sg.length]?=some (.var [c,c2] false)) (hd:sg2[sg.length+1]?=some (.var [ii 0] false)):ab prog 99 [.fn (.func g) fa cap] sg (.ret (.tuple [.agg [ii n,ii m],ii 5])) (((sg2++[Box.var [ii n,ii m] false]).set sg.length (.var [ii n,ii m] false)).set (sg.length+1) (.var [ii 5] false)):=by
 subst hw;have hlt:sg.length+1<sg2.length:=(DR.1 hd).1;have hb2:(sg2++[Box.var [ii n,ii m] false])[sg.length]?=some (.var [c,c2] false):=by rw[DY (by omega)];exact hb
 have hd2:((sg2++[Box.var [ii n,ii m] false]).set sg.length (.var [ii n,ii m] false))[sg.length+1]?=some (.var [ii 0] false):=by rw[D8 (by omega),DY (by omega)];exact hd
 have hg0:=p5 (sg:=sg2++[Box.var [ii n,ii m] false]) (n:=sg.length) (x:=.var [ii n,ii m] false) (y:=.var [ii 5] false) (by simp;omega)
 have hg1:=jE (sg:=sg2++[Box.var [ii n,ii m] false]) (n:=sg.length) (x:=.var [ii n,ii m] false) (y:=.var [ii 5] false) (by simp;omega)
 refine ab.deferring2 (st1:=⟨[(3,.bp (sg.length+1) 0),(2,.bp sg.length 0),(0,.fn (.func g) fa cap)],8,sg++[.var [ii 0,ii 0] false,.var [ii 0] false]⟩) (st2:=⟨[(5,.fn (.func g) fa cap),(4,.fn (.func 126) [] [.bp sg.length 0,.bp (sg.length+1) 0]),(3,.bp (sg.length+1) 0),(2,.bp sg.length 0),(0,.fn (.func g) fa cap)],8,sg2⟩) (m:=.pan (.iface 166 (.agg [ii n,ii m])))
  (st3:=⟨[(12,.agg [ii n,ii m]),(3,.bp sg2.length 0),(11,.agg [ii n,ii m]),(10,.bool true),(9,.tuple [.agg [ii n,ii m],.bool true]),(8,.bool false),(6,.iface 166 (.agg [ii n,ii m])),(0,.bp sg.length 0),(1,.bp (sg.length+1) 0)],16,((sg2++[Box.var [ii n,ii m] false]).set sg.length (.var [ii n,ii m] false)).set (sg.length+1) (.var [ii 5] false)⟩) (idv:=sg.length) (idw:=sg.length+1) hTT func99 rfl func126 rfl rfl (by decide) (ent func126 rfl) ?_ rfl rfl (Eu rfl) ?_ ?_ ?_ ?_ ?_ ?_
 ·exact dJ.regionL hTT (by simp only[gI,iE,app2s,vo,Et,go_sem];rfl)
 ·refine o6 ?_
  repeat with_reducible first|refine nz (ar aa he hc hsl) ?_|apply ny;simp only[f99,cp,EA,go_sem];rfl
  refine lx.stop (v:=.iface 166 (.agg [ii n,ii m])) (st1:=⟨[(5,.fn (.func g) fa cap),(4,.fn (.func 126) [] [.bp sg.length 0,.bp (sg.length+1) 0]),(3,.bp (sg.length+1) 0),(2,.bp sg.length 0),(0,.fn (.func g) fa cap)],8,sg2⟩) (by simp only[cp,EA,go_sem]) ?_
  repeat with_reducible first|refine nz aa ?_|apply ny;simp only[f99,go_sem];rfl
  exact⟨rfl,rfl⟩
 ·exact dJ.block (out:=.normal) (dJ.seq (st1:=⟨[(8,.bool false),(6,.iface 166 (.agg [ii n,ii m])),(0,.bp sg.length 0),(1,.bp (sg.length+1) 0)],16,sg2⟩) (dJ.regionL hTT rfl) (dJ.cond (b:=false) rfl
   (dJ.seq (st1:=⟨[(11,.agg [ii n,ii m]),(10,.bool true),(9,.tuple [.agg [ii n,ii m],.bool true]),(8,.bool false),(6,.iface 166 (.agg [ii n,ii m])),(0,.bp sg.length 0),(1,.bp (sg.length+1) 0)],16,sg2⟩) (dJ.regionL hTT rfl) (dJ.cond (b:=true) rfl
    (dJ.seq (st1:=⟨[(3,.bp sg2.length 0),(11,.agg [ii n,ii m]),(10,.bool true),(9,.tuple [.agg [ii n,ii m],.bool true]),(8,.bool false),(6,.iface 166 (.agg [ii n,ii m])),(0,.bp sg.length 0),(1,.bp (sg.length+1) 0)],16,sg2++[Box.var [ii n,ii m] false]⟩) (dJ.regionL hTT (by simp only[gI,iE,lL,go_sem])) (dJ.regionL hTT (by simp only[gI,hb2,hd2,lL,go_sem])))))))
 ·simp only[f99,hg0,hg1,go_sem]
 ·exact tU rfl rfl hsl
 ·show sg.length<(sg++[_,_]).length
  simp
 ·show sg.length+1<(sg++[_,_]).length
  simp
end Go.Pv
