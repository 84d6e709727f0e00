import Derived.CallsIn
import Derived.Shelf.SlSortCmp.NoneTotal
import Derived.Test.YtmebonambbhehaaGreatQcEval
set_option linter.all false
namespace Go.Pv
open Go
theorem Mg{α:Type}:∀(a:Ask α) (w:World),w.drawn<=(w.ask a).2.drawn
 |.done a,w=>DS _
 |.ask what range k,w=>by
  unfold World.ask;dsimp only;split
  ·exact Mg (k 0) w
  ·exact Em (Nat.le_succ _) (Mg (k _) { w with drawn:=w.drawn+1 })
theorem lT(w:World)(c:Sys):w.drawn<=(w.sys c).2.drawn:=by
 have:=Mg (Kernel.perform c w.os) w
 unfold World.sys;split
 ·exact DS _
 ·rename_i h;rw[h]at this;exact this
theorem l4{p:Program}{w:World}{at_:Addr}{u:TypeId}{k:Addr}{v:Value}{b:Bool}{r:World×List Addr}(h:w.viewStore p at_ u k v b=.ok r):r.1.drawn=w.drawn:=by
 unfold World.viewStore at h;simp only[bind,Except.bind,pure,Except.pure,throw,throwThe,MonadExceptOf.throw]at h
 repeat' split at h
 all_goals first|(cases h;done)|(cases h;rfl)
theorem iR{p:Program}{w:World}{a:Addr}{v:Value}{b:Bool}{r:World×List Addr}(h:w.farStore p a v b=.ok r):r.1.drawn=w.drawn:=by
 unfold World.farStore at h;split at h
 ·split at h
  ·rename_i hv
   cases h;exact l4 hv
  ·cases h
 ·cases h
theorem kV(w:World)(a:Addr)(n:Nat):(w.freeze a n).drawn=w.drawn:=by unfold World.freeze;split <;> rfl
def rW{α:Type}:Result α->World
 |.ok _ w=>w
 |.halt _ w=>w
section
variable {P:Program} {α:Type}
theorem zC(s:Sem α):∀w:World,w.drawn<=(rW (s.run P w)).drawn:=by
 induction s with
 |pure a=>exact fun w=>DS _
 |load m a k ih =>
  intro w;simp only[Sem.run];split
  ·exact ih _ _
  ·split
   ·exact ih _ _
   ·exact DS _
 |store m a v k ih =>
  intro w;cases v
  all_goals simp only[Sem.run]
  all_goals first
   |exact DS _
   | (split
      ·split
       ·exact DS _
       ·exact ih (w.setCell a _)
      ·split
       ·rename_i h2
        have:=iR h2
        exact Em (GL this.symm) (ih _)
       ·exact DS _)
 |new o k ih=>exact fun w=>ih _ { w with heap:=w.heap.push o }
 |shape r k ih=>exact fun w=>ih _ w
 |freeze a n k ih=>exact fun w=>Em (GL (kV w a n).symm) (ih (w.freeze a n))
 |frozen a k ih=>exact fun w=>ih _ w
 |getObj r k ih =>
  intro w;simp only[Sem.run];split
  ·exact DS _
  ·exact ih _ _
  ·exact DS _
 |setObj r o k ih =>
  intro w;simp only[Sem.run];split
  ·exact DS _
  ·exact ih { w with heap:=w.heap.setIfInBounds r o }
  ·exact DS _
 |choose q k ih =>
  intro w;simp only[Sem.run];split
  ·exact ih _ _
  ·exact Em (Nat.le_succ _) (ih _ { w with drawn:=w.drawn+1 })
 |sys c k ih=>exact fun w=>Em (lT w c) (ih _ _)
 |program k ih=>exact fun w=>ih _ w
 |mark m k ih=>exact fun w=>ih w
 |halt h=>exact fun w=>DS _
theorem iv(s:Sem α):∀(w:World) (es:Array Event),w.drawn<=(rW (s.runT P w es).1).drawn:=by
 induction s with
 |pure a=>exact fun w es=>DS _
 |load m a k ih =>
  intro w es;simp only[Sem.runT];split
  ·exact ih _ _ _
  ·split
   ·exact ih _ _ _
   ·exact DS _
 |store m a v k ih =>
  intro w es;cases v
  all_goals simp only[Sem.runT]
  all_goals first
   |exact DS _
   | (split
      ·split
       ·exact DS _
       ·exact ih (w.setCell a _) _
      ·split
       ·rename_i h2
        have:=iR h2
        exact Em (GL this.symm) (ih _ _)
       ·exact DS _)
 |new o k ih=>exact fun w es=>ih _ { w with heap:=w.heap.push o } _
 |shape r k ih=>exact fun w es=>ih _ w _
 |freeze a n k ih=>exact fun w es=>Em (GL (kV w a n).symm) (ih (w.freeze a n) es)
 |frozen a k ih=>exact fun w es=>ih _ w _
 |getObj r k ih =>
  intro w es;simp only[Sem.runT];split
  ·exact DS _
  ·exact ih _ _ _
  ·exact DS _
 |setObj r o k ih =>
  intro w es;simp only[Sem.runT];split
  ·exact DS _
  ·exact ih { w with heap:=w.heap.setIfInBounds r o } _
  ·exact DS _
 |choose q k ih =>
  intro w es;simp only[Sem.runT];split
  ·exact ih _ _ _
  ·exact Em (Nat.le_succ _) (ih _ { w with drawn:=w.drawn+1 } _)
 |sys c k ih=>exact fun w es=>Em (lT w c) (ih _ _ _)
 |program k ih=>exact fun w es=>ih _ w _
 |mark m k ih=>exact fun w es=>ih w _
 |halt h=>exact fun w es=>DS _
theorem k8{s:Sem α}{w w':World}{a:α}(h:s.run P w=.ok a w'):w.drawn<=w'.drawn:=by have:=zC (P:=P) s w;rw[h]at this;exact this
theorem fZ{s:Sem α}{w w':World}{a:Halt}(h:s.run P w=.halt a w'):w.drawn<=w'.drawn:=by have:=zC (P:=P) s w;rw[h]at this;exact this
theorem gR{s:Sem α}{w w':World}{a:α}{es es':Array Event}(h:s.runT P w es=(.ok a w',es')):w.drawn<=w'.drawn:=by have:=iv (P:=P) s w es;rw[h]at this;exact this
theorem d7{s:Sem α}{w w':World}{a:Halt}{es es':Array Event}(h:s.runT P w es=(.halt a w',es')):w.drawn<=w'.drawn:=by have:=iv (P:=P) s w es;rw[h]at this;exact this
end
def gW:GStep->World
 |.go _ w _=>w
 |.comm _ _ _ _ w _=>w
 |.spawn _ _ w _=>w
 |.count _ w _=>w
 |.timer _ _ w _=>w
 |.alone _ _ w _=>w
 |.newcoro _ _ _ w _=>w
 |.coroswitch _ _ _ w _=>w
 |.collect _ w _=>w
 |.watch _ w _=>w
 |.ended _ w _=>w
theorem dA(es:Array Event)(s:GStep):gW (GStep.after es s)=gW s:=by cases s <;> rfl
section
variable {p:Program}
theorem jC(fr:Frame)(v:Value)(w:World):gW (endPrinting p fr v w)=w:=by
 unfold endPrinting;dsimp only;split <;> rfl
theorem xG(w:World)(fd:Nat)(text:ByteArray)(o:Outcome):w.drawn<=(gW (endWith w fd text o)).drawn:=by
 have:=lT w (.write fd text)
 unfold endWith;dsimp only;split <;> rename_i h <;> rw[h]at this
 ·split <;> exact this
 ·exact this
 ·exact this
theorem oo(fr:Frame)(cs:List Frame)(dy:Option Dying)(m:String)(w:World):w.drawn<=(gW (endFatal p fr cs dy m w)).drawn:=by
 unfold endFatal;dsimp only;split
 ·rename_i h;exact k8 h
 ·rename_i h;exact fZ h
 ·rename_i h;exact fZ h
theorem Il(fr:Frame)(d:Dying)(f:Fatal)(w:World):w.drawn<=(gW (writeOn p fr d f w)).drawn:=by
 unfold writeOn;dsimp only;split
 ·exact DS _
 ·split <;> rename_i h <;> first|exact gR h|exact d7 h
theorem die_d(fr:Frame)(d:Dying)(w:World):w.drawn<=(gW (die p fr d w)).drawn:=by
 unfold die;dsimp only;split
 ·exact Il _ _ _ _
 ·split
  ·split
   ·exact DS _
   ·exact xG _ _ _ _
  ·split
   ·exact DS _
   ·split <;> rename_i h <;> first|exact k8 h|exact fZ h
   ·rw[dA]
    generalize hr:Sem.runT p _ w #[]=x;obtain⟨r,es⟩:=x;dsimp only;split
    ·exact gR hr
    ·exact gR hr
    ·exact d7 hr
    ·rw[jC];exact d7 hr
    ·exact DS _
   ·exact DS _
theorem j3(main:Bool)(fr:Frame)(cs:List Frame)(dy:Option Dying)(v:Value)(w:World):gW (doReturn p main fr cs dy v w)=w:=by
 unfold doReturn;dsimp only;split
 ·split <;> rfl
 ·split
  ·rfl
  ·rfl
  ·split
   ·rfl
   ·split <;> rfl
theorem ni(fr:Frame)(cs:List Frame)(dy:Option Dying)(d:Deferred)(w:World):w.drawn<=(gW (callDeferred p fr cs dy d w)).drawn:=by
 unfold callDeferred;generalize hr:Sem.runT p _ w #[]=x;obtain⟨r,es⟩:=x;have h:w.drawn<=(rW r).drawn:=by have:=iv (P:=p) (invoke d.target d.args) w #[];rw[hr]at this;exact this
 clear hr;dsimp only;cases r with
 |ok a w' =>
  have h:w.drawn<=w'.drawn:=h;cases a with
  |coroswitch c b=>cases b <;> dsimp only <;> (repeat' split) <;> first|exact DS _|(rw[dA];exact h)
  |alone b x=>cases b <;> dsimp only <;> (repeat' split) <;> first|exact DS _|(rw[dA];exact h)
  |_=>dsimp only;(repeat' split) <;> first|exact DS _|(rw[dA];exact h)
 |halt a w' =>
  have h:w.drawn<=w'.drawn:=h;cases a <;> dsimp only <;> (repeat' split) <;> first|exact DS _|(rw[dA];first|exact h|exact Em h (oo _ _ _ _ _))
theorem unwind_d(main:Bool)(fr:Frame)(cs:List Frame)(dy:Option Dying)(w:World):w.drawn<=(gW (unwind p main fr cs dy w)).drawn:=by
 unfold unwind;split
 ·generalize hr:Sem.runT p _ w #[]=x
  obtain⟨r,es⟩:=x;dsimp only;rw[dA];cases r with
  |ok a w'=>exact gR hr
  |halt a w'=>exact d7 hr
 ·exact ni _ _ _ _ _
 ·split
  ·exact DS _
  ·split
   ·exact DS _
   ·split
    ·exact DS _
    ·split
     ·split
      ·exact DS _
      ·split <;> rename_i h <;> first|exact k8 h|exact fZ h
     ·split
      ·rw[jC];exact DS _
      ·exact DS _
  ·split
   ·rw[j3];exact DS _
   ·generalize hr:Sem.runT p _ w #[]=x
    obtain⟨r,es⟩:=x;dsimp only;rw[dA];cases r with
    |ok a w'=>dsimp only;rw[j3];exact gR hr
    |halt a w' =>
     have h:=d7 hr;cases a <;> exact h
theorem early_d(fr:Frame)(cs:List Frame)(dy:Option Dying)(g:Nat)(w:World):w.drawn<=(gW (early p fr cs dy g w)).drawn:=by
 have nY:∀w':World,w.drawn<=w'.drawn->w.drawn<=(gW (match w'.heap[g]? with
  |some (.pending c elem)=>.go { frame:=fr,callers:=cs,status:=.running,dying:=dy } { w' with heap:=w'.heap.setIfInBounds g (.cells c elem) }
  |_=>.ended (.stuck "early: the variable does not wait" (fr.pos p)) w')).drawn:=by
  intro w' h;split <;> exact h
 unfold early;dsimp only;split
 ·exact nY _ (DS _)
 split
 ·exact DS _
 split
 ·exact nY _ (DS _)
 split
 ·exact nY _ (DS _)
 split
 ·exact DS _
 ·exact DS _
 ·exact DS _
 ·exact nY _ (DS _)
 ·split
  ·exact DS _
  ·split
   ·exact nY _ (DS _)
   ·split <;> rename_i h
    ·exact nY _ (k8 h)
    ·exact k8 h
    ·exact fZ h
theorem pI(l:Bool)(fr:Frame)(cs:List Frame)(dy:Option Dying)(s:Sem Next)(w:World):w.drawn<=(gW (stepG.apply p l fr cs dy s w)).drawn:=by
 have hx:∃r es,(if l=true then Sem.runT p s w #[]else(Sem.run p s w,#[]))=(r,es)∧w.drawn<=(rW r).drawn:=by
  split
  ·exact⟨_,_,rfl,iv _ _ _⟩
  ·exact⟨_,_,rfl,zC _ _⟩
 obtain⟨r,es,hr,h⟩:=hx;unfold stepG.apply;dsimp only;rw[hr];dsimp only;rw[dA];cases r with
 |ok a w' =>
  have h:w.drawn<=w'.drawn:=h;cases a <;> dsimp only <;> (repeat' split) <;> exact h
 |halt a w' =>
  have h:w.drawn<=w'.drawn:=h;cases a with
  |unsupported u=>cases u <;> dsimp only <;> first|exact h|exact Em h (early_d _ _ _ _ _)
  |_=>dsimp only;first|exact h|exact Em h (oo _ _ _ _ _)
theorem oper_d(l:Bool)(fr:Frame)(cs:List Frame)(dy:Option Dying)(w:World):w.drawn<=(gW (stepG.oper p l fr cs dy w)).drawn:=by
 unfold stepG.oper;split
 ·exact DS _
 ·split <;> exact pI _ _ _ _ _ _
theorem exec_d(main l:Bool)(fr:Frame)(cs:List Frame)(dy:Option Dying)(w:World):w.drawn<=(gW (stepG.exec p main l fr cs dy w)).drawn:=by
 have lv:∀(jump:Option Code) (A:GStep) (B:World->GStep),gW A=w->(∀w',gW (B w')=w')->w.drawn<=(gW (match fr.roundOf with
  |none=>if(jump matches none|some .ret)=true then GStep.go { frame:={ fr with mode:=.returning },callers:=cs,status:=.running,dying:=dy } w else A
  |some l =>
   match (Instr.endRound l jump).runT p w #[]with
   |(r,es)=>GStep.after (seen p fr.fn es) (match r with
   |.ok v w=>doReturn p main fr cs dy v w
   |.halt _ w=>B w))).drawn:=by
  intro jump A B hA hB;split
  ·(repeat' split) <;> first|exact DS _|(rw[hA];exact DS _)|(exact absurd rfl (by assumption))
  ·generalize hr:Sem.runT p _ w #[]=x
   obtain⟨r,es⟩:=x;dsimp only;rw[dA];cases r with
   |ok a w'=>dsimp only;rw[j3];exact gR hr
   |halt a w'=>dsimp only;rw[hB];exact d7 hr
 unfold stepG.exec;dsimp only;split
 all_goals first
  |exact DS _
  |exact lv none _ _ rfl (fun _=>rfl)
  |exact lv (some .ret) _ _ rfl (fun _=>rfl)
  |exact pI _ _ _ _ _ _
  |exact oper_d _ _ _ _ _
  |skip
 ·split <;> exact DS _
 ·rename_i id k _
  cases exitTo id k with
  |none=>exact lv (some (.exit id)) _ _ rfl (fun _=>rfl)
  |some t=>exact DS _
 ·rename_i g k _
  cases gotoIn g k with
  |none=>exact lv (some (.goto g)) _ _ rfl (fun _=>rfl)
  |some t=>exact DS _
 ·generalize hr:Sem.runT p _ w #[]=x
  obtain⟨r,es⟩:=x;dsimp only;rw[dA];cases r with
  |ok a w'=>exact Em (gR hr) (pI _ _ _ _ _ _)
  |halt a w'=>exact d7 hr
 ·generalize hr:Sem.runT p _ w #[]=x
  obtain⟨r,es⟩:=x;dsimp only;rw[dA];cases r with
  |ok a w'=>exact gR hr
  |halt a w' =>
   have h:=d7 hr;cases a <;> exact h
 ·rename_i row args k _
  cases Extern.next row with
  |none=>exact DS _
  |some e=>exact pI _ _ _ _ _ _
 ·split
  ·exact DS _
  ·split <;> rename_i h <;> first|exact k8 h|exact fZ h
 ·split
  ·exact oper_d _ _ _ _ _
  ·exact DS _
theorem stepG_d(main l:Bool)(g:Goroutine)(w:World):w.drawn<=(gW (stepG p main g w l)).drawn:=by
 unfold stepG;dsimp only;split
 ·exact die_d _ _ _
 ·exact exec_d _ _ _ _ _ _
 ·exact unwind_d _ _ _ _ _
def sOk(d:Nat):Stepped->Prop
 |.next m=>d<=m.world.drawn
 |.ended _ _=>True
theorem sOk.mono{d d':Nat}(h:d<=d'):∀{s:Stepped},sOk d' s->sOk d s
 |.next _,k=>Em h k
 |.ended _ _,_=>trivial
theorem look_d(gs:Array Goroutine)(rest:Rest)(w:World):sOk w.drawn (look p gs rest w):=by
 unfold look;dsimp only;split
 ·split
  ·trivial
  ·split
   ·trivial
   ·split <;> rename_i h <;> first|trivial|(have hh:=k8 h;exact hh)
 ·trivial
theorem p9(rest:Rest)(gs:Array Goroutine)(i:Nat)(g:Goroutine)(cases:Array CommCase)(b:Bool)(shape:CommShape)(w:World):sOk w.drawn (communicate p rest gs i g cases b shape w).1:=by
 unfold communicate;dsimp only;split
 ·trivial
 split
 ·split
  ·split
   ·rename_i w' h
    unfold waitingAt at h;split at h
    ·split at h <;> cases h
     exact DS _
    ·cases h;exact DS _
   ·trivial
  ·exact DS _
 ·split
  ·trivial
  ·rename_i h
   have hd:=k8 h;clear h;split
   ·split
    ·rename_i h2;have hh:=Em hd (fZ h2);exact hh
    ·trivial
   ·exact hd
   ·exact hd
   ·split
    ·exact hd
    ·split <;> rename_i h2 <;> first|trivial|(have hh:=Em hd (k8 h2);exact hh)
   ·exact hd
   ·exact hd
   ·trivial
theorem u9(m:Machine)(k:Nat)(t:Timer)(a b:Nat):(retime m k t a b).2.world.drawn=m.world.drawn:=by
 unfold retime drain;dsimp only;split
 ·split <;> rfl
 ·rfl
theorem AI{m m':Machine}{op:TimerOp}{v:Value}(h:timerOp m op=.ok (v,m')):m'.world.drawn=m.world.drawn:=by
 unfold timerOp at h;split at h
 ·split at h
  ·cases h;rfl
  ·split at h
   ·split at h <;> cases h
    rfl
   ·cases h
 ·unfold timerOp.named at h
  split at h <;> cases h
  exact u9 _ _ _ _ _
 ·split at h
  ·rename_i m1 h1
   have e1:m1.world.drawn=m.world.drawn:=by
    unfold timerOp.opened at h1;split at h1
    ·split at h1 <;> cases h1
     rfl
    ·cases h1;rfl
   unfold timerOp.named at h;split at h <;> cases h
   exact(u9 m1 _ _ _ _).trans e1
  ·cases h
 ·cases h;rfl
theorem mrun_d(m:Machine)(i:Nat)(l:Bool):sOk m.world.drawn (runT p m i l).1:=by
 unfold runT;dsimp only;have hd:=stepG_d (p:=p) (i==0) l (m.gs.swapAt! i { (default:Goroutine)with status:=.finished }).1 m.world
 generalize hs:stepG p (i==0) (m.gs.swapAt! i { (default:Goroutine)with status:=.finished }).1 m.world l=s at hd ⊢
 cases s with
 |ended o w es=>trivial
 |comm g cases b shape w es=>exact sOk.mono hd (p9 _ _ _ _ _ _ _ _)
 |go g w es=>exact hd
 |spawn g c w es=>exact hd
 |count g w es =>
  dsimp only;split
  ·trivial
  ·exact hd
 |alone g on w es=>exact hd
 |collect g w es=>exact sOk.mono hd (look_d _ _ _)
 |watch g w es=>exact hd
 |newcoro g c d w es=>exact hd
 |coroswitch g c e w es =>
  dsimp only;split
  ·exact hd
  ·exact hd
  ·trivial
 |timer g op w es =>
  dsimp only;split
  ·rename_i h
   have:=AI h
   exact Em hd (GL this.symm)
  ·exact hd
  ·trivial
  ·trivial
theorem serve_d(m:Machine)(k:Nat):sOk m.world.drawn (serve p m k):=by
 unfold serve;split
 ·trivial
 ·exact DS _
 ·dsimp only
  split
  ·trivial
  ·exact DS _
def mvOk(d:Nat):Move->Prop
 |.goroutine m _=>d<=m.world.drawn
 |.machine s _=>sOk d s
theorem mvOk.mono{d d':Nat}(h:d<=d'):∀{s:Move},mvOk d' s->mvOk d s
 |.goroutine _ _,k=>Em h k
 |.machine _ _,k=>sOk.mono h k
theorem sI(m:Machine):mvOk m.world.drawn (askOn p m):=by
 unfold askOn;dsimp only;split
 ·trivial
 ·rename_i k w1 h
  have h:m.world.drawn<=w1.drawn:=k8 h;have pk:∀m1:Machine,m.world.drawn<=m1.world.drawn->mvOk m.world.drawn (match (choose (.sched (runnable m.gs m.world.os.mono).length)).run p m1.world with
   |.halt _ w=>Move.machine (.ended (.stuck "sched" "") w)
   |.ok k world =>
    if(runnable m.gs m.world.os.mono).length<=1 then .goroutine { m1 with world } ((runnable m.gs m.world.os.mono).getD k 0)else
    match (choose (.extern "sched.slice" 65536)).run p world with
    |.halt _ w=>.machine (.ended (.stuck "sched.slice" "") w)
    |.ok n world=>.goroutine { m1 with world,rest:={ m1.rest with slice:=if n=0 then none else some ((runnable m.gs m.world.os.mono).getD k 0,n) } } ((runnable m.gs m.world.os.mono).getD k 0)):=by
   intro m1 h1;split
   ·trivial
   ·rename_i h2
    have h2:=Em h1 (k8 h2);split
    ·exact h2
    ·split
     ·trivial
     ·rename_i h3;exact Em h2 (k8 h3)
  split
  ·exact sOk.mono h (serve_d _ _)
  ·split
   ·split
    ·exact h
    ·split
     ·exact h
     ·split
      ·trivial
      ·trivial
   ·split
    ·refine pk { m with world:=w1 } ?_;exact h
    ·split
     ·trivial
     ·rename_i wd h2;have hh:=Em h (k8 h2);refine pk { m with world:=wd } ?_;exact hh
     ·rename_i h2;have hh:=Em h (k8 h2);exact hh
     ·rename_i h2;have hh:=Em h (k8 h2);refine pk _ ?_;exact hh
theorem ask_d(m:Machine):mvOk m.world.drawn (ask p m):=by
 unfold ask;split
 ·split
  ·trivial
  ·rename_i w1 h
   have h:=k8 h;have hl:=sOk.mono h (look_d (p:=p) m.gs m.rest w1);split
   ·rename_i m1 e
    rw[e]at hl;exact mvOk.mono hl (sI _)
   ·exact hl
  ·rename_i h
   exact mvOk.mono (k8 h) (sI _)
 ·exact sI _
theorem move_d(m:Machine):mvOk m.world.drawn (move p m):=by
 unfold move;split
 ·split
  ·exact DS _
  ·trivial
 ·split
  ·split
   ·exact DS _
   ·exact ask_d _
  ·exact ask_d _
theorem step_d(m:Machine):sOk m.world.drawn (step p m):=by
 have h:=move_d (p:=p) m;unfold step stepT;split
 ·rename_i m1 i e
  rw[e]at h;exact sOk.mono h (mrun_d _ _ _)
 ·rename_i s ops e
  rw[e]at h;exact h
theorem xD{m m':Machine}(h:Steps p m m'):m.world.drawn<=m'.world.drawn:=by
 obtain⟨n,hn⟩:=h;induction n generalizing m with
 |zero=>simp only[runN]at hn;cases hn;exact DS _
 |succ n ih =>
  simp only[runN]at hn;have hs:=step_d (p:=p) m;cases e:step p m with
  |next m1=>rw[e]at hn hs;exact Em hs (ih hn)
  |ended o w=>rw[e]at hn;cases hn
theorem Calls.drawn{f:FuncId}{us:Array Value}{w:World}{R:Ending->World->Prop}(h:Calls p f us w R):Calls p f us w fun e w'=>R e w'∧(e=.outgrown∨w.drawn<=w'.drawn):=fun cs =>
 let ⟨e,w',fr,r,c,x⟩:=h cs
 ⟨e,w',fr,⟨r,by
  cases e with
  |returned v=>exact .inr (xD (p:=p) c)
  |panicked v=>exact .inr (xD (p:=p) c)
  |outgrown=>exact .inl rfl⟩,c,x⟩
end
open Go Go.RowKit Go.Proofs Go.Shelf Go.Sort
structure PP where
 x:Int
 y:Int
 hx:(Lit.int .i64 x).wf=true
 hy:(Lit.int .i64 y).wf=true
instance:Inhabited PP:=⟨⟨0,0,rfl,rfl⟩⟩
def PP.pv(p:PP):PV:=.agg [.int .i64 p.x,.int .i64 p.y]
def PP.vs(p:PP):List Value:=[.int .i64 p.x,.int .i64 p.y]
theorem PP.ext{a b:PP}(h1:a.x=b.x)(h2:a.y=b.y):a=b:=by
 cases a;cases b;cases h1;cases h2;rfl
theorem pW{W w':World}(hb:Below W.heap.size W w')(hd:W.drawn<=w'.drawn):∃q os',w'=grow (W.drewN q) os':=by
 refine⟨w'.drawn-W.drawn,w'.heap.extract W.heap.size w'.heap.size,?_⟩;have hheap:w'.heap=W.heap++w'.heap.extract W.heap.size w'.heap.size:=by
  apply Array.ext_getElem?;intro i;by_cases hi:i<W.heap.size
  ·rw[ES hi];exact hb.block i hi
  ·rw[OM (by omega),Array.getElem?_extract]
   by_cases h2:i<w'.heap.size
   ·rw[DZ (by omega)]
    congr 1;omega
   ·rw[D5 (by omega),Array.getElem?_eq_none (by omega)]
 have e1:=hb.os;have e2:=hb.tape;have e3:=hb.output;cases w';cases W;simp only at hheap hd e1 e2 e3;subst e1;subst e2;subst e3;simp only[grow,World.drewN,World.mk.injEq,IV,true_and];exact⟨hheap,by omega⟩
variable {P:Program}
theorem args2{G:Gh}{x y:PV}{us:Array Value}(h:RepL G [x,y] us):∃u v,us=#[u,v]∧Rep G x u∧Rep G y v:=by
 obtain⟨h1,h2⟩:=h;obtain⟨l⟩:=us
 match l,h1 with
 |[u,v],_=>exact⟨u,v,rfl,h2 0 x u rfl rfl,h2 1 y v rfl rfl⟩
end Go.Pv
