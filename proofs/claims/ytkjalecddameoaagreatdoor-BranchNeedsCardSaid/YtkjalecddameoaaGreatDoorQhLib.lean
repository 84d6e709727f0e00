import Derived.Shelf.Strings.Builder1
import Derived.Shelf.Strings.Builder2
import Derived.Shelf.Strings.OnBuilder
import Derived.Shelf.Strings.BuilderF
import Derived.Shelf.Strings.BuilderK
import Derived.Shelf.Strings.Split
import Derived.Shelf.Strconv.Itoa3
import Derived.Test.YtkjalecddameoaaGreatDoorQgEnds
set_option linter.all false
open Go.Proofs.Tryz
namespace Go.Proofs
open Go.Shelf
def lays156_ren:Go.Shelf.Ren:=⟨fun|156=>219|165=>250|166=>251|169=>252|240=>264|241=>265|276=>276|277=>277|n=>n,fun|0=>0|3=>3|4=>4|5=>5|9=>9|20=>20|31=>165|37=>93|70=>301|72=>303|75=>306|76=>307|80=>309|127=>320|164=>330|n=>n,fun|n=>n⟩
theorem lays156:Go.Proofs.Lays.n156 prog lays156_ren:={
 mixed:=by kernel_rfl
 f156:=func219.trans (congrArg some (by kernel_rfl))
 f165:=func250.trans (congrArg some (by kernel_rfl))
 f166:=func251.trans (congrArg some (by kernel_rfl))
 f169:=func252.trans (congrArg some (by kernel_rfl))
 f240:=func264.trans (congrArg some (by kernel_rfl))
 f241:=func265.trans (congrArg some (by kernel_rfl))
 f276:=func276.trans (congrArg some (by kernel_rfl))
 f277:=func277.trans (congrArg some (by kernel_rfl))
 t0:=underlying0
 a0:=isAgg0
 z0:=sizeOf0
 v0:=zeroValue0
 t3:=underlying3
 a3:=isAgg3
 z3:=sizeOf3
 v3:=zeroValue3
 t4:=underlying4
 a4:=isAgg4
 z4:=sizeOf4
 v4:=zeroValue4
 t9:=underlying9
 a9:=isAgg9
 z9:=sizeOf9
 v9:=zeroValue9
 t20:=underlying20
 a20:=isAgg20
 z20:=sizeOf20
 v20:=zeroValue20
 t31:=underlying165
 a31:=isAgg165
 z31:=sizeOf165
 v31:=zeroValue165
 t37:=underlying93
 a37:=isAgg93
 z37:=sizeOf93
 v37:=zeroValue93
 t70:=underlying301
 a70:=isAgg301
 z70:=sizeOf301
 v70:=zeroValue301
 t72:=underlying303
 a72:=isAgg303
 z72:=sizeOf303
 v72:=zeroValue303
 t75:=underlying306
 a75:=isAgg306
 z75:=sizeOf306
 v75:=zeroValue306
 t76:=underlying307
 a76:=isAgg307
 z76:=sizeOf307
 v76:=zeroValue307
 t127:=underlying320
 a127:=isAgg320
 z127:=sizeOf320
 v127:=zeroValue320
 t164:=underlying330
 a164:=isAgg330
 z164:=sizeOf330
 v164:=zeroValue330
}
theorem Builder_Extra_156:Builder.Extra prog lays156_ren:={
 sizeBuilder:=by kernel_rfl
 liesBuilder:=by kernel_rfl
 t5:=underlying5
 a5:=isAgg5
 z5:=sizeOf5
 v5:=zeroValue5
 infoByte:=by kernel_rfl
 cellsByte:=by kernel_rfl
 sizeByte:=by kernel_rfl
 neB5:=by decide }
def lays146_ren:Go.Shelf.Ren:=⟨fun|138=>255|143=>256|146=>169|195=>270|197=>271|217=>283|218=>272|219=>273|221=>221|224=>285|225=>284|260=>282|266=>289|267=>286|268=>254|314=>290|n=>n,fun|0=>0|3=>3|4=>4|5=>5|9=>9|21=>21|31=>165|46=>201|51=>267|105=>326|119=>337|138=>339|139=>340|146=>341|n=>n,fun|1=>1|3=>2|4=>3|n=>n⟩
theorem lays146:Go.Proofs.Lays.n146 prog lays146_ren:={
 mixed:=by kernel_rfl
 f138:=func255.trans (congrArg some (by kernel_rfl))
 f143:=func256.trans (congrArg some (by kernel_rfl))
 f146:=func169.trans (congrArg some (by kernel_rfl))
 f195:=func270.trans (congrArg some (by kernel_rfl))
 f197:=func271.trans (congrArg some (by kernel_rfl))
 f217:=func283.trans (congrArg some (by kernel_rfl))
 f218:=func272.trans (congrArg some (by kernel_rfl))
 f219:=func273.trans (congrArg some (by kernel_rfl))
 f221:=func221.trans (congrArg some (by kernel_rfl))
 f224:=func285.trans (congrArg some (by kernel_rfl))
 f225:=func284.trans (congrArg some (by kernel_rfl))
 f260:=func282.trans (congrArg some (by kernel_rfl))
 f266:=func289.trans (congrArg some (by kernel_rfl))
 f267:=func286.trans (congrArg some (by kernel_rfl))
 f268:=func254.trans (congrArg some (by kernel_rfl))
 f314:=func290.trans (congrArg some (by kernel_rfl))
 t0:=underlying0
 a0:=isAgg0
 z0:=sizeOf0
 v0:=zeroValue0
 t3:=underlying3
 a3:=isAgg3
 z3:=sizeOf3
 v3:=zeroValue3
 t4:=underlying4
 a4:=isAgg4
 z4:=sizeOf4
 v4:=zeroValue4
 t5:=underlying5
 a5:=isAgg5
 z5:=sizeOf5
 v5:=zeroValue5
 t9:=underlying9
 a9:=isAgg9
 z9:=sizeOf9
 v9:=zeroValue9
 t21:=underlying21
 a21:=isAgg21
 z21:=sizeOf21
 v21:=zeroValue21
 t31:=underlying165
 a31:=isAgg165
 z31:=sizeOf165
 v31:=zeroValue165
 t46:=underlying201
 a46:=isAgg201
 z46:=sizeOf201
 v46:=zeroValue201
 t51:=underlying267
 a51:=isAgg267
 z51:=sizeOf267
 v51:=zeroValue267
 t105:=underlying326
 a105:=isAgg326
 z105:=sizeOf326
 v105:=zeroValue326
 t119:=underlying337
 a119:=isAgg337
 z119:=sizeOf337
 t138:=underlying339
 a138:=isAgg339
 z138:=sizeOf339
 v138:=zeroValue339
 t139:=underlying340
 a139:=isAgg340
 z139:=sizeOf340
 v139:=zeroValue340
 t146:=underlying341
 a146:=isAgg341
 z146:=sizeOf341
 v146:=zeroValue341
 g1:=by kernel_rfl
 g3:=by kernel_rfl
 g4:=by kernel_rfl
}
def laysM171_ren:Go.Shelf.Ren:=⟨fun|129=>215|171=>167|243=>220|246=>253|283=>266|284=>267|285=>268|286=>269|317=>278|318=>279|319=>280|320=>281|337=>287|338=>288|n=>n,fun|0=>0|2=>2|3=>3|4=>4|5=>5|9=>9|20=>20|37=>93|46=>201|51=>267|53=>269|171=>321|173=>323|212=>335|213=>336|232=>343|233=>344|n=>n,fun|17=>0|18=>4|19=>5|n=>n⟩
theorem laysM171:Go.Proofs.LaysM.n171 prog laysM171_ren:={
 mixed:=by kernel_rfl
 f129:=func215.trans (congrArg some (by kernel_rfl))
 f171:=func167.trans (congrArg some (by kernel_rfl))
 f243:=func220.trans (congrArg some (by kernel_rfl))
 f246:=func253.trans (congrArg some (by kernel_rfl))
 f283:=func266.trans (congrArg some (by kernel_rfl))
 f284:=func267.trans (congrArg some (by kernel_rfl))
 f285:=func268.trans (congrArg some (by kernel_rfl))
 f286:=func269.trans (congrArg some (by kernel_rfl))
 f317:=func278.trans (congrArg some (by kernel_rfl))
 f318:=func279.trans (congrArg some (by kernel_rfl))
 f319:=func280.trans (congrArg some (by kernel_rfl))
 f320:=func281.trans (congrArg some (by kernel_rfl))
 f337:=func287.trans (congrArg some (by kernel_rfl))
 f338:=func288.trans (congrArg some (by kernel_rfl))
 t0:=underlying0
 a0:=isAgg0
 z0:=sizeOf0
 v0:=zeroValue0
 t2:=underlying2
 a2:=isAgg2
 z2:=sizeOf2
 v2:=zeroValue2
 t3:=underlying3
 a3:=isAgg3
 z3:=sizeOf3
 v3:=zeroValue3
 t4:=underlying4
 a4:=isAgg4
 z4:=sizeOf4
 v4:=zeroValue4
 t5:=underlying5
 a5:=isAgg5
 z5:=sizeOf5
 v5:=zeroValue5
 t9:=underlying9
 a9:=isAgg9
 z9:=sizeOf9
 v9:=zeroValue9
 t20:=underlying20
 a20:=isAgg20
 z20:=sizeOf20
 v20:=zeroValue20
 t37:=underlying93
 a37:=isAgg93
 z37:=sizeOf93
 v37:=zeroValue93
 t46:=underlying201
 a46:=isAgg201
 z46:=sizeOf201
 v46:=zeroValue201
 t51:=underlying267
 a51:=isAgg267
 z51:=sizeOf267
 v51:=zeroValue267
 t53:=underlying269
 a53:=isAgg269
 z53:=sizeOf269
 v53:=zeroValue269
 t171:=underlying321
 a171:=isAgg321
 z171:=sizeOf321
 v171:=zeroValue321
 t173:=underlying323
 a173:=isAgg323
 z173:=sizeOf323
 v173:=zeroValue323
 t212:=underlying335
 a212:=isAgg335
 z212:=sizeOf335
 v212:=zeroValue335
 t213:=underlying336
 a213:=isAgg336
 z213:=sizeOf336
 t232:=underlying343
 a232:=isAgg343
 z232:=sizeOf343
 v232:=zeroValue343
 t233:=underlying344
 a233:=isAgg344
 z233:=sizeOf344
 v233:=zeroValue344
 g17:=by kernel_rfl
 g18:=by kernel_rfl
 g19:=by kernel_rfl
 i0:=by kernel_rfl
 i2:=by kernel_rfl
 i3:=by kernel_rfl
 i4:=by kernel_rfl
 i5:=by kernel_rfl
 i9:=by kernel_rfl
 i20:=by kernel_rfl
 i37:=by kernel_rfl
 i46:=by kernel_rfl
 i51:=by kernel_rfl
 i53:=by kernel_rfl
 i171:=by kernel_rfl
 i173:=by kernel_rfl
 i212:=by kernel_rfl
 i232:=by kernel_rfl
 i233:=by kernel_rfl
 m17:=by kernel_rfl
 m18:=by kernel_rfl
 m19:=by kernel_rfl
}
end Go.Proofs
namespace Go.Pv
open Go Go.RowKit Go.Proofs
set_option maxRecDepth 10000
set_option maxHeartbeats 4000000
theorem ab.ofCalls{P:Program}{f:FuncId}{args:List PV}{sg:List Box}{v:PV}{u:Value}
 (h:∀(G:Gh) (w:World) (us:Array Value),Rel G sg w->RepL G args us->Calls P f us w fun e w'=>e=.returned u∧Below w.heap.size w w') (hv:∀G,Rep G v u):ab P f args sg (.ret v) sg :=
 ⟨DS _,fun n G w us hR hL=>CallsIn.mono (callsIn_wide.2 (h G w us hR hL)) fun e w' ⟨he,hb⟩=>by
  subst he;exact⟨G,hR.keep hb,bK _ _,rfl,hv G⟩⟩
theorem args_one{G:Gh}{x:PV}{us:Array Value}(h:RepL G [x] us):∃u,us=#[u]∧Rep G x u:=by
 obtain⟨h1,h2⟩:=h;obtain⟨l⟩:=us
 match l,h1 with
 |[u],_=>exact⟨u,rfl,h2 0 x u rfl rfl⟩
theorem TabOk.of{G:Gh}{sg:List Box}{w:World}(h:Rel G sg w):TabOk w:=h.tab.mono h.below
def decF:Nat->Nat->List UInt8
 |0,_=>[]
 |k+1,u=>if u<10 then[UInt8.ofNat (48+u)]else decF k (u / 10)++[UInt8.ofNat (48+u%10)]
theorem sC:∀(k u:Nat),u<10 ^ (k+1)->decF (k+1) u=Lib.decDigits u
 |0,u,h=>by
  have h':u<10:=by simpa using h
  rw[Lib.decDigits];unfold decF;rw[DZ h',dif_pos h']
 |k+1,u,h=>by
  rw[Lib.decDigits];unfold decF;split
  ·rfl
  ·rw[sC k (u / 10) (by rw[Nat.div_lt_iff_lt_mul (by decide)];rw[Nat.pow_succ]at h;omega)]
def tQ(n:Int):List UInt8:=if n<0 then 45::decF 20 n.natAbs else decF 20 n.toNat
theorem itoaF_eq{n:Int}(h0:-9223372036854775808<=n)(h1:n<=9223372036854775807):tQ n=Lib.itoa n:=by
 unfold tQ Lib.itoa;rw[sC _ _ (by omega),sC _ _ (by omega)]
theorem Itoa_167{n:Int}(h0:-9223372036854775808<=n)(h1:n<=9223372036854775807)(hl:(tQ n).length<=maxLen)(sg:List Box):ab prog 167 [ii n] sg (.ret (.str (tQ n))) sg:=by
 refine ab.ofCalls (u:=.string ⟨(tQ n).toArray⟩) (fun G w us hR hL=>?_) fun G=>.str hl
 obtain⟨u,rfl,hu⟩:=args_one hL;cases hu;refine(Any.strconv_Itoa laysM171 n h0 h1 w (TabOk.of hR).1).mono fun e w' ⟨he,k,os,hw⟩=>⟨?_,?_⟩
 ·rw[he,itoaF_eq h0 h1]
 ·rw[hw];exact Lib.below_grow _ _ (DS _) k os
def c167:Tb_
 |[.int .i64 n],sg=>if -9223372036854775808<=n∧n<=9223372036854775807∧(tQ n).length<=maxLen then some (.ret (.str (tQ n)),sg)else none
 |_,_=>none
theorem Aq:al prog 167 c167:=fun args sg r sg' h=>by
 unfold c167 at h;split at h <;> try (cases h;done)
 split at h <;> cases h
 rename_i hc;exact⟨ent func167 rfl,Itoa_167 hc.1 hc.2.1 hc.2.2 _,SameLoops.refl _⟩
def decS:PV->Option (List UInt8)
 |.str s=>some s
 |_=>none
theorem decS_inv(x:PV)(a:List UInt8)(h:decS x=some a):x=.str a:=by
 unfold decS at h;split at h <;> cases h
 rfl
theorem ie:∀l:List (List UInt8),flat (l.map PV.str)=l.map PV.str
 |[]=>rfl
 |x::l=>by
  have:=ie l
  unfold flat at this ⊢;rw[EE,E2,this];rfl
theorem Join_219{x:PV}{xs:List (List UInt8)}{sep:List UInt8}{sg:List Box}(hx:yV sg x=some (xs.map PV.str))(hN:xs.length<=140737488355328)(hlen:(Lib.join xs sep).length<=140737488355328):
 ab prog 219 [x,.str sep] sg (.ret (.str (Lib.join xs sep))) sg:=by
 refine ab.ofCalls (u:=.string ⟨(Lib.join xs sep).toArray⟩) (fun G w us hR hL=>?_) fun G=>.str (by unfold maxLen;omega)
 obtain⟨u,v,rfl,hu,hv⟩:=pS hL;cases hv;have none_case:∀(A:Option Addr) (c:Nat),xs=[]->Calls prog 219 #[.slice A 0 c,.string ⟨sep.toArray⟩] w fun e w'=>e=.returned (.string ⟨(Lib.join xs sep).toArray⟩)∧Below w.heap.size w w':=fun A c h=>by
  subst h;exact(Any.strings_Join_none lays156 Builder_Extra_156 A c ⟨sep.toArray⟩ w).mono fun e w' ⟨he,hw⟩=>⟨he,hw▸Below.refl _ _⟩
 rcases gU hR hu hx with ⟨h0,A,c,rfl⟩|⟨g,off,cap,k,vs,rfl,hcap,_,_,hLv,hcell,hl⟩
 ·exact none_case A c (IN.1 h0)
 ·rw[ie]at hLv
  have hvl:vs.length=xs.length:=by have:=hLv.1;simpa using this
  by_cases he:xs=[]
  ·subst he
   exact none_case _ cap rfl
  have hv:∀(j:Nat) (y:List UInt8),xs[j]?=some y->vs[j]?=some (.string ⟨y.toArray⟩):=fun j y hy=>by
   have hj:=(DR.1 hy).1;have hvj:vs[j]?=some vs[j]:=DT (by omega)
   have:=hLv.2 j (.str y) vs[j] (by simp[hy]) (by simpa using hvj)
   cases hh:vs[j]with
   |string t =>
    rw[hh]at this;cases this;rw[hvj,hh]
   |_=>rw[hh]at this;cases this
  have hlen':(xs.map PV.str).length=(xs.map fun l=>(⟨l.toArray⟩:ByteArray)).length:=by simp
  have hmap:(xs.map fun l=>(⟨l.toArray⟩:ByteArray)).map (·.data.toList)=xs:=by
   rw[Fb];exact(EP (fun _ _=>rfl)).trans (List.map_id xs)
  rw[hlen'];have hg:g<w.heap.size:=by
   cases xs with
   |nil=>exact absurd rfl he
   |cons y r=>exact block_lt_of_cell (hcell 0 _ (hv 0 y rfl))
  have:=Any.strings_Join lays156 Builder_Extra_156 g off cap (xs.map fun l=>(⟨l.toArray⟩:ByteArray)) ⟨sep.toArray⟩ w (fun j y hy=>by
   simp only[Eh,EC]at hy;obtain⟨l,hl,rfl⟩:=hy;have:=hcell j _ (hv j l hl)
   rw[gy]at this;exact this) hg (by simpa using hN) (by simpa using hcap) (by rw[hmap];exact hlen)
  rw[hmap]at this;exact this
def c219:Tb_
 |[x,.str sep],sg=>match yV sg x with
  |some es=>match dM decS es with
   |some xs=>if xs.length<=140737488355328∧(Lib.join xs sep).length<=140737488355328 then some (.ret (.str (Lib.join xs sep)),sg)else none
   |none=>none
  |none=>none
 |_,_=>none
theorem c219_ok:al prog 219 c219:=fun args sg r sg' h=>by
 unfold c219 at h;split at h <;> try (cases h;done)
 split at h <;> try (cases h;done)
 rename_i hx;split at h <;> try (cases h;done)
 rename_i xs hxs;split at h <;> cases h
 rename_i hc;rw[bv decS_inv hxs]at hx;exact⟨ent func219 rfl,Join_219 hx hc.1 hc.2,SameLoops.refl _⟩
theorem yU{s sep:List UInt8}{sg:List Box}(hs:s.length<4294967281)(h1:1<=sep.length)(hall:(Lib.split s sep).all (fun x=>Nat.ble x.length maxLen)=true)(hn:(Lib.split s sep).length<=maxLen):
 ab prog 169 [.str s,.str sep] sg (.ret (.sl .f ((Lib.split s sep).map PV.str))) sg:=by
 refine⟨DS _,fun n G w us hR hL=>?_⟩
 obtain⟨u,v,rfl,hu,hv⟩:=pS hL;cases hu;cases hv;obtain⟨m,hm⟩:=(TabOk.of hR).2;refine CallsIn.mono (callsIn_wide.2 (Any.strings_Split lays146 (by kernel_rfl) ⟨s.toArray⟩ ⟨sep.toArray⟩ m w (by simpa[ByteArray.size]using hs) hm (by simpa[ByteArray.size]using h1))) fun e w' ⟨he,hw⟩=>?_
 subst he;subst hw;have hd:(Lib.splitB ⟨sep.toArray⟩ 0 (Lib.countB ⟨s.toArray⟩ ⟨sep.toArray⟩) ⟨s.toArray⟩).map (·.data.toList)=Lib.split s sep:=Lib.splitB_data _ 0 _ _
 have hlen:Lib.countB ⟨s.toArray⟩ ⟨sep.toArray⟩+1=((Lib.split s sep).map PV.str).length:=by
  rw[←hd];simp only[DX];exact(Lib.splitB_all _ (by simpa[ByteArray.size]using h1) 0 _ _ rfl).symm
 obtain⟨a1,a2⟩:=lay_ok hR ((Lib.splitB ⟨sep.toArray⟩ 0 (Lib.countB ⟨s.toArray⟩ ⟨sep.toArray⟩) ⟨s.toArray⟩).map Value.string).toArray (lays146_ren.t 9);refine⟨_,a1,a2.leM _,rfl,?_⟩;show Rep _ (.sl .f ((Lib.split s sep).map PV.str)) (.slice _ _ _);rw[hlen];have hpc:∀(j:Nat) (c:PV),((Lib.split s sep).map PV.str)[j]?=some c->∃b:ByteArray,(Lib.splitB ⟨sep.toArray⟩ 0 (Lib.countB ⟨s.toArray⟩ ⟨sep.toArray⟩) ⟨s.toArray⟩)[j]?=some b∧c=.str b.data.toList∧b.data.toList.length<=maxLen:=fun j c hc=>by
  rw[←hd]at hc hall;simp only[Eh,EC]at hc;obtain⟨l,⟨b,hb,rfl⟩,rfl⟩:=hc;refine⟨b,hb,rfl,?_⟩;exact EV (D7.1 hall _ (List.mem_map_of_mem (DU hb)))
 refine .sl (by intro h;cases h) (fun _=>rfl) 1 (fun j=>(((Lib.splitB ⟨sep.toArray⟩ 0 (Lib.countB ⟨s.toArray⟩ ⟨sep.toArray⟩) ⟨s.toArray⟩).map Value.string)[j]?).getD undef) ?_ ?_ (DS _) (by simpa using hn) ?_ ?_ (fun _=>rfl)
 ·intro e he
  obtain⟨l,_,rfl⟩:=Ex.1 he;rfl
 ·intro c hc
  rw[ie]at hc;obtain⟨l,_,rfl⟩:=Ex.1 hc;rfl
 ·intro j c hc
  rw[ie]at hc;obtain⟨b,hb,_,_⟩:=hpc j c hc
  show(if w.heap.size=w.heap.size then _ else _)=_
  rw[DZ rfl,EG];simp[hb]
 ·intro j c hc
  rw[ie]at hc;obtain⟨b,hb,rfl,hbl⟩:=hpc j c hc;simp only[Eh,hb,F3,Option.getD_some];exact .str hbl
def c169:Tb_
 |[.str s,.str sep],sg=>if s.length<4294967281∧1<=sep.length∧(Lib.split s sep).all (fun x=>Nat.ble x.length maxLen)=true∧(Lib.split s sep).length<=maxLen then some (.ret (.sl .f ((Lib.split s sep).map PV.str)),sg)else none
 |_,_=>none
theorem c169_ok:al prog 169 c169:=fun args sg r sg' h=>by
 unfold c169 at h;split at h <;> try (cases h;done)
 split at h <;> cases h
 rename_i hc;exact⟨ent func169 rfl,yU hc.1 hc.2.1 hc.2.2.1 hc.2.2.2,SameLoops.refl _⟩
set_option maxRecDepth 200000
set_option maxHeartbeats 80000000
def meB:Meth:=fun t name=>if name = "kelir/branch.words" then(if t=209 then some 306 else if t=212 then some 308 else if t=213 then some 310 else if t=215 then some 311 else none)else none
theorem meB_ok:cQ prog meB:=by
 intro t name g v w h;unfold meB at h;split at h <;> try (cases h;done)
 rename_i hn;subst hn;split at h
 ·rename_i ht;subst ht;cases h;kernel_rfl
 ·split at h
  ·rename_i ht;subst ht;cases h;kernel_rfl
  ·split at h
   ·rename_i ht;subst ht;cases h;kernel_rfl
   ·split at h <;> try (cases h;done)
    rename_i ht;subst ht;cases h;kernel_rfl
end Go.Pv
