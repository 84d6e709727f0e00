/- The pure-value layer, part 51: a string's bytes, one of them changed, a string again. -/
import Derived.Lib.ConvBytes
import Derived.Laws.BytesString
import Derived.Test.YtkjalecddameoaaGreatDoorQdWalk
set_option linter.all false
namespace Go.Pv
open Go Go.RowKit
section
variable {P:Program} {T:TypeId→TyI}
theorem bytes_set (hT:TyT P T) {tS tB tU:TypeId} (hS:(T tS).d = .str) (hB:(T tB).d = .slice tU) (hU:(T tU).d = .int .u8) (hU1:(T tU).size = 1) (w:World) (t:List UInt8) (x:Nat) (hx:x < t.length) (b:UInt8) (ht:t.length ≤ maxLen) :
 ∃ cap w1 w2,(convert tS tB (.string ⟨t.toArray⟩)).run P w = .ok (.slice (some ⟨w.heap.size,0,none⟩) t.length cap) w1 ∧
  (Instr.indexAt tB (.slice (some ⟨w.heap.size,0,none⟩) t.length cap) (.int .i64 x)).run P w1 = .ok (.pointer (some ⟨w.heap.size,x,none⟩)) w1 ∧
  (Instr.storeAt tU (.pointer (some ⟨w.heap.size,x,none⟩)) (.int .u8 b.toNat)).run P w1 = .ok () w2 ∧
  (convert tB tS (.slice (some ⟨w.heap.size,0,none⟩) t.length cap)).run P w2 = .ok (.string ⟨(t.set x b).toArray⟩) w2∧Below w.heap.size w w2:=by
 have uS:=und_str (hT tS (by rw [hS];rfl)) hS
 have uB:=und_slice (hT tB (by rw [hB];rfl)) hB
 have uU:=und_int (hT tU (by rw [hU];rfl)) hU
 have hnew:=Lib.bytesWorld_at_new w tU ⟨t.toArray⟩
 have hC:Lib.bytesCells w tU ⟨t.toArray⟩ = ((t.map fun (b:UInt8)=>Value.int .u8 b.toNat) ++ List.replicate (grownCap w t.length 0 tU - t.length) (Value.int .u8 0)).toArray:=by
  unfold Lib.bytesCells
  simp [ByteArray.size]
 have hcv:=Lib.run_convert_string_bytes (P:=P) w tS tB tU ⟨t.toArray⟩ uS uB uU
 have hsz:(⟨t.toArray⟩:ByteArray).size = t.length:=by simp [ByteArray.size]
 rw [hsz] at hcv
 generalize grownCap w t.length 0 tU = cap at hcv hC
 generalize hw1:Lib.bytesWorld w tU ⟨t.toArray⟩ = w1 at hcv hnew
 have hbel1:Below w.heap.size w w1:=by
  rw [← hw1]
  refine ⟨?_,?_,?_,?_,fun k hk=>Lib.bytesWorld_at_old w tU _ k hk⟩
  ·simp [Lib.bytesWorld,World.freeze,World.alloc,World.drew,-World.alloc_eq,-World.drew_eq]
  ·simp [Lib.bytesWorld,World.freeze,World.alloc,World.drew,-World.alloc_eq,-World.drew_eq]
  ·simp [Lib.bytesWorld,World.freeze,World.alloc,World.drew,-World.alloc_eq,-World.drew_eq]
  ·rw [Lib.bytesWorld_size];omega
 rw [hC] at hnew
 have hcx:w1.cell? ⟨w.heap.size,x,none⟩ = some (.int .u8 (t[x]'hx).toNat):=by
  rw [cell_of_heap hnew]
  simp [List.getElem?_append,hx]
 have hfx:w1.frozen? ⟨w.heap.size,x,none⟩ = false:=by
  simp [World.frozen?,hnew]
  omega
 refine ⟨cap,w1,w1.setCell ⟨w.heap.size,x,none⟩ (.int .u8 b.toNat),hcv,?_,?_,?_,?_⟩
 ·have h1:(x:Int) < (t.length:Int):=by omega
  have h2:¬ (x:Int) < 0:=by omega
  simp [Instr.indexAt,asIntOf,run_underlying uB,hx,run_size (hT tU (by rw [hU];rfl)),add_mk,hU1]
 ·simp [Instr.storeAt,Instr.sureAddr,storeVar,Value.cells,run_size (hT tU (by rw [hU];rfl)),hU1,storeCells,run_store P _ _ (Value.int .u8 b.toNat) _ rfl,Addr.add_zero',hcx,hfx,Result.andThen]
 ·have hw2:(w1.setCell ⟨w.heap.size,x,none⟩ (.int .u8 b.toNat)).heap[w.heap.size]? = some (.cells ((((t.set x b).map fun (b:UInt8)=>Value.int .u8 b.toNat) ++ List.replicate (cap - t.length) (Value.int .u8 0)).toArray) tU ((((t.map fun (b:UInt8)=>Value.int .u8 b.toNat) ++ List.replicate (cap - t.length) (Value.int .u8 0)).toArray.size,((t.map fun (b:UInt8)=>Value.int .u8 b.toNat) ++ List.replicate (cap - t.length) (Value.int .u8 0)).toArray.size + 1))):=by
   have hlt:w.heap.size < w1.heap.size:=by
    rcases Nat.lt_or_ge w.heap.size w1.heap.size with h | h
    ·exact h
    ·rw [Array.getElem?_eq_none h] at hnew;cases hnew
   unfold World.setCell
   simp only [Array.getElem?_modify,if_true,hnew,Option.map_some,Option.isSome_none,Bool.false_eq_true,if_false]
   congr 2
   apply Array.ext'
   simp [List.set_append,hx,List.map_set]
  have hcells:∀ (j:Nat) (u:Value),((t.set x b).map fun (b:UInt8)=>Value.int .u8 b.toNat)[j]? = some u→(w1.setCell ⟨w.heap.size,x,none⟩ (.int .u8 b.toNat)).cell? ((⟨w.heap.size,0,none⟩:Addr).add j) = some u:=by
   intro j u hj
   have hjl:=(List.getElem?_eq_some_iff.1 hj).1
   rw [add_mk,Nat.zero_add,cell_of_heap hw2]
   rw [← hj]
   simp only [List.getElem?_toArray]
   rw [List.getElem?_append_left hjl]
  have hld:=run_loadCells_list (P:=P) (w1.setCell ⟨w.heap.size,x,none⟩ (.int .u8 b.toNat)) ⟨w.heap.size,0,none⟩ _ hcells
  have hmm:((t.set x b).map fun (b:UInt8)=>Value.int .u8 b.toNat) = ((t.set x b).map fun (b:UInt8)=>(b.toNat:Int)).map (Value.int .u8):=by rw [List.map_map];rfl
  have hlen:((t.set x b).map fun (b:UInt8)=>Value.int .u8 b.toNat).length = t.length:=by simp
  rw [hlen,hmm] at hld
  have hb:=run_bytesToString (P:=P) (w1.setCell ⟨w.heap.size,x,none⟩ (.int .u8 b.toNat)) ⟨w.heap.size,0,none⟩ t.length cap _ hld
  have hemp:(ByteArray.empty) = (⟨([]:List UInt8).toArray⟩:ByteArray):=rfl
  rw [hemp,bytes_push (t.set x b) []] at hb
  rw [run_convert_bytes_string _ tB tS tU _ _ _ uB uU uS]
  simpa using hb
 ·exact hbel1.trans ⟨rfl,rfl,rfl,by unfold World.setCell;simp,fun k hk=>Below.heap_setCell _ _ _ _ (by show k ≠ w.heap.size;omega)⟩
theorem ev_ne {a:Act} {d t:Nat} {u:Value} (h:d ≠ t):(a.put (some d) u).eval (.tmp t) = a.eval (.tmp t):=by
 simp [Act.eval,Act.put,Array.getD_eq_getD_getElem?,Array.getElem?_setIfInBounds_ne h]
theorem ev_eq {a:Act} {d:Nat} {u:Value} (h:d < a.tmps.size):(a.put (some d) u).eval (.tmp d) = u:=by
 simp [Act.eval,Act.put,Array.getD_eq_getD_getElem?,h]
theorem ev_const {a:Act} {v:Value}:a.eval (.const v) = v:=rfl
theorem ev_none {a:Act} {t:Nat} {u:Value}:(a.put none u).eval (.tmp t) = a.eval (.tmp t):=rfl
theorem wpOps_rawB {r:Option Nat} {ops:Array Oper} {i m:Nat} {rest:List Nat} {o:Oper} {a:Act} {w w':World} {u:Value} {Q:Exit→Act→World→Prop} (hi:ops[i]? = some o) (hg:o.guard = none) (hnd:∀ c,o.op ≠ .defer c)
 (hrun:(execOp a.eval o).run P w = .ok (.value u) w') (k:wpOpsIn (FW r) m P ops Q rest (a.put o.dst u) w'):wpOpsIn (FW r) m P ops Q (i :: rest) a w:=by
 have hwt:Region.wanted o (yielded ops a.tmps) = true:=by unfold Region.wanted;rw [hg]
 simp only [wpOpsIn,hi,hwt,if_true]
 refine ⟨fun f _=>trivial,?_⟩
 have hsem:o.semAt (FW r).round a.eval = execOp a.eval o:=Oper.semAt_eq _ _ _ hnd
 rw [hsem,hrun]
 exact k
theorem wpOps_rawS {r:Option Nat} {ops:Array Oper} {i m:Nat} {rest:List Nat} {o:Oper} {a:Act} {w w':World} {Q:Exit→Act→World→Prop} (hi:ops[i]? = some o) (hg:o.guard = none) (hnd:∀ c,o.op ≠ .defer c)
 (hrun:(execOp a.eval o).run P w = .ok .skip w') (k:wpOpsIn (FW r) m P ops Q rest (a.put o.dst undef) w'):wpOpsIn (FW r) m P ops Q (i :: rest) a w:=by
 have hwt:Region.wanted o (yielded ops a.tmps) = true:=by unfold Region.wanted;rw [hg]
 simp only [wpOpsIn,hi,hwt,if_true]
 refine ⟨fun f _=>trivial,?_⟩
 have hsem:o.semAt (FW r).round a.eval = execOp a.eval o:=Oper.semAt_eq _ _ _ hnd
 rw [hsem,hrun]
 exact k
variable {me:Meth} {cf:CallF}
set_option maxHeartbeats 4000000 in
theorem RunQ.bytesSet (hT:TyT P T) (hcf:CallFOk P cf) (hme:MethOk P me) {tS tB tI tU:TypeId} (hS:(T tS).d = .str) (hB:(T tB).d = .slice tU) (hU:(T tU).d = .int .u8) (hU1:(T tU).size = 1) (hI:(T tI).d = .int .i64)
 {i8 i9 i10:Nat} {y0 y1 y2 y3 y4 y5 y6 y7 y8 y9 z0 z1:TypeId} {p0 p1 p2 p3 p4 p5 p6 p7 p8 p9 q0 q1:String} {f0 f1 f2 f3 f4 f5 f6 f7 f8 f9 g0 g1:Array Edge} {os:List Oper} {rest:Code} {Q:Out→St→Prop} {st:St} {t:List UInt8} {x:Nat} {dg:Int} {b:UInt8} {xt:TypeId}
 (h7:getT st.tm 7 = some (.str t)) (h1:getT st.tm 1 = some (.int .i64 x)) (h2:getT st.tm 2 = some (.int .i64 dg)) (hx:x < t.length) (hd0:0 ≤ dg) (hd9:dg ≤ 9) (hb:b = UInt8.ofNat (48 + dg).toNat) (ht:t.length ≤ maxLen) (hn:76 < st.n)
 (k66:getT st.tm 66 = none) (k67:getT st.tm 67 = none) (k9:getT st.tm 9 = none) (k68:getT st.tm 68 = none) (k69:getT st.tm 69 = none) (k70:getT st.tm 70 = none) (k71:getT st.tm 71 = none) (k72:getT st.tm 72 = none) (k73:getT st.tm 73 = none) (k75:getT st.tm 75 = none)
 (hq:RegG P me cf T (({ dst:=some 75,op:=.move (.tmp 9),type:=z0,pos:=q0,after:=g0,guard:=none }:Oper) :: ({ dst:=some 76,op:=.convert tB tS (.tmp 75),type:=z1,pos:=q1,after:=g1,guard:=none }:Oper) :: os).toArray 2 os ⟨putT st.tm 76 (.str (t.set x b)),st.n,st.sg⟩ (thenQ P rest Q)) :
 RunQ P (.seq (.region i8 #[{ dst:=some 66,op:=.move (.tmp 7),type:=y0,pos:=p0,after:=f0,guard:=none },{ dst:=some 67,op:=.convert tS tB (.tmp 66),type:=y1,pos:=p1,after:=f1,guard:=none },{ dst:=some 9,op:=.assign (.tmp 67),type:=y2,pos:=p2,after:=f2,guard:=none }] false)
  (.seq (.region i9 #[{ dst:=some 68,op:=.move (.tmp 9),type:=y3,pos:=p3,after:=f3,guard:=none },{ dst:=some 69,op:=.move (.tmp 1),type:=y4,pos:=p4,after:=f4,guard:=none },{ dst:=some 70,op:=.move (.tmp 2),type:=y5,pos:=p5,after:=f5,guard:=none },
   { dst:=some 71,op:=.binOp .add xt (.const (.int .i64 48)) (.tmp 70) xt,type:=y6,pos:=p6,after:=f6,guard:=none },{ dst:=some 72,op:=.convert tI tU (.tmp 71),type:=y7,pos:=p7,after:=f7,guard:=none },{ dst:=some 73,op:=.indexAddr tB (.tmp 68) (.tmp 69),type:=y8,pos:=p8,after:=f8,guard:=none },
   { dst:=none,op:=.store tU (.tmp 73) (.tmp 72),type:=y9,pos:=p9,after:=f9,guard:=none }] false)
  (.seq (.region i10 (({ dst:=some 75,op:=.move (.tmp 9),type:=z0,pos:=q0,after:=g0,guard:=none }:Oper) :: ({ dst:=some 76,op:=.convert tB tS (.tmp 75),type:=z1,pos:=q1,after:=g1,guard:=none }:Oper) :: os).toArray false) rest))) st Q:=by
 obtain ⟨out,st2,hro,hq2⟩:=hq hT hcf hme (fun j o hj=>by
  rw [List.getElem?_toArray,show 2 + j = j + 1 + 1 by omega,List.getElem?_cons_succ,List.getElem?_cons_succ];exact hj)
 generalize hops:(({ dst:=some 75,op:=.move (.tmp 9),type:=z0,pos:=q0,after:=g0,guard:=none }:Oper) :: ({ dst:=some 76,op:=.convert tB tS (.tmp 75),type:=z1,pos:=q1,after:=g1,guard:=none }:Oper) :: os).toArray = ops10 at hro
 have tail:∃ o s',Q o s'∧st.sg.length ≤ s'.sg.length∧∀ (r:Option Nat) (n:Nat) (G:Gh) (a:Act) (w:World) (db:DB) (K:Exit→Act→World→Prop),RelS G ⟨putT st.tm 76 (.str (t.set x b)),st.n,st.sg⟩ a w r db →
  (∀ e a' w' G',ExitOk G' o e→RelS G' s' a' w' r db→Gh.leM st.sg.length G G'→K e a' w')→wpOpsIn (FW r) n P ops10 (Exit.then (rest.wpIn (FW r) n P K) K) (List.range' 2 os.length) a w:=by
  cases out with
  | normal =>
   obtain ⟨o',s',hr',hq'⟩:=(show RunQ P rest st2 Q from hq2)
   refine ⟨o',s',hq',Nat.le_trans hro.1 hr'.1,fun r n G a w db K hs k=>hro.2 r n G a w db _ hs fun e a' w' G' he hs' hl'=>?_⟩
   obtain rfl:=he.normal'
   exact hr'.2 r n G' a' w' db K hs' fun e a'' w'' G'' he' hs'' hl''=>k _ _ _ G'' he' hs'' (hl'.trans hl'' hro.1)
  | exit i=>exact ⟨_,_,hq2,hro.1,fun r n G a w db K hs k=>hro.2 r n G a w db _ hs fun e a' w' G' he hs' hl'=>by
   have:=k e a' w' G' he hs' hl'
   cases e <;> first | exact this | exact he.elim⟩
  | goto i=>exact ⟨_,_,hq2,hro.1,fun r n G a w db K hs k=>hro.2 r n G a w db _ hs fun e a' w' G' he hs' hl'=>by
   have:=k e a' w' G' he hs' hl'
   cases e <;> first | exact this | exact he.elim⟩
  | ret=>exact ⟨_,_,hq2,hro.1,fun r n G a w db K hs k=>hro.2 r n G a w db _ hs fun e a' w' G' he hs' hl'=>by
   have:=k e a' w' G' he hs' hl'
   cases e <;> first | exact this | exact he.elim⟩
  | panic v=>exact ⟨_,_,hq2,hro.1,fun r n G a w db K hs k=>hro.2 r n G a w db _ hs fun e a' w' G' he hs' hl'=>by
   have:=k e a' w' G' he hs' hl'
   cases e <;> first | exact this | exact he.elim⟩
 obtain ⟨o,s',hQ,hlen,htail⟩:=tail
 refine ⟨o,s',⟨hlen,fun r n G a w db K hs k=>?_⟩,hQ⟩
 obtain ⟨u7,hu7,hr7⟩:=hs.tm 7 _ h7
 obtain ⟨u1,hu1,hr1⟩:=hs.tm 1 _ h1
 obtain ⟨u2,hu2,hr2⟩:=hs.tm 2 _ h2
 cases hr7
 cases hr1
 cases hr2
 obtain ⟨cap,w1,w2,r1,r2,r3,r4,hbel⟩:=bytes_set (P:=P) hT hS hB hU hU1 w t x hx b ht
 have e7:a.eval (.tmp 7) = .string ⟨t.toArray⟩:=by simp [Act.eval,Array.getD_eq_getD_getElem?,hu7]
 have e1:a.eval (.tmp 1) = .int .i64 x:=by simp [Act.eval,Array.getD_eq_getD_getElem?,hu1]
 have e2:a.eval (.tmp 2) = .int .i64 dg:=by simp [Act.eval,Array.getD_eq_getD_getElem?,hu2]
 have hsz:=hs.n
 have l66:66 < st.n:=by omega
 have l67:67 < st.n:=by omega
 have l9:9 < st.n:=by omega
 have l68:68 < st.n:=by omega
 have l69:69 < st.n:=by omega
 have l70:70 < st.n:=by omega
 have l71:71 < st.n:=by omega
 have l72:72 < st.n:=by omega
 have l73:73 < st.n:=by omega
 have l75:75 < st.n:=by omega
 have uI:=und_int (hT tI (by rw [hI];rfl)) hI
 have uU:=und_int (hT tU (by rw [hU];rfl)) hU
 have hw1:IntKind.i64.wrap (48 + dg) = 48 + dg:=IntWalk.i64_in _ ⟨by omega,by omega⟩
 have hw2:IntKind.u8.wrap (48 + dg) = (b.toNat:Nat):=by
  rw [IntWalk.u8_in _ ⟨by omega,by omega⟩,hb,UInt8.toNat_ofNat']
  omega
 have hcvt:(convert tI tU (.int .i64 (48 + dg))).run P w1 = .ok (.int .u8 b.toNat) w1:=by
  simp only [convert,Sem.run_bind,run_underlying uI,run_underlying uU,Result.andThen_ok]
  simp [Conv.intToInt,hw2]
 refine wpIn_seq (wpIn_region ?_)
 show wpOpsIn (FW r) n P _ _ [0,1,2] a w
 refine wpOps_rawB rfl rfl (fun c e=>by cases e) (u:=.string ⟨t.toArray⟩) (w':=w) (by simp [execOp,e7]) ?_
 refine wpOps_rawB rfl rfl (fun c e=>by cases e) (u:=.slice (some ⟨w.heap.size,0,none⟩) t.length cap) (w':=w1) (by simp [execOp,ev_eq,hsz,l66,r1]) ?_
 refine wpOps_rawB rfl rfl (fun c e=>by cases e) (u:=.slice (some ⟨w.heap.size,0,none⟩) t.length cap) (w':=w1) (by simp [execOp,ev_eq,put_size,hsz,l67]) ?_
 have c1:(((a.put (some 66) (.string ⟨t.toArray⟩)).put (some 67) (.slice (some ⟨w.heap.size,0,none⟩) t.length cap)).put (some 9) (.slice (some ⟨w.heap.size,0,none⟩) t.length cap)).eval (.tmp 9) = .slice (some ⟨w.heap.size,0,none⟩) t.length cap:=ev_eq (by rw [put_size,put_size,hsz];exact l9)
 have c2:(((a.put (some 66) (.string ⟨t.toArray⟩)).put (some 67) (.slice (some ⟨w.heap.size,0,none⟩) t.length cap)).put (some 9) (.slice (some ⟨w.heap.size,0,none⟩) t.length cap)).eval (.tmp 1) = .int .i64 x:=by rw [ev_ne (by decide),ev_ne (by decide),ev_ne (by decide)];exact e1
 have c3:(((a.put (some 66) (.string ⟨t.toArray⟩)).put (some 67) (.slice (some ⟨w.heap.size,0,none⟩) t.length cap)).put (some 9) (.slice (some ⟨w.heap.size,0,none⟩) t.length cap)).eval (.tmp 2) = .int .i64 dg:=by rw [ev_ne (by decide),ev_ne (by decide),ev_ne (by decide)];exact e2
 have c4:(((a.put (some 66) (.string ⟨t.toArray⟩)).put (some 67) (.slice (some ⟨w.heap.size,0,none⟩) t.length cap)).put (some 9) (.slice (some ⟨w.heap.size,0,none⟩) t.length cap)).tmps.size = st.n:=by rw [put_size,put_size,put_size,hsz]
 have c5:RepT G st.tm (((a.put (some 66) (.string ⟨t.toArray⟩)).put (some 67) (.slice (some ⟨w.heap.size,0,none⟩) t.length cap)).put (some 9) (.slice (some ⟨w.heap.size,0,none⟩) t.length cap)).tmps:=((hs.tm.putN k66).putN k67).putN k9
 have c6:(((a.put (some 66) (.string ⟨t.toArray⟩)).put (some 67) (.slice (some ⟨w.heap.size,0,none⟩) t.length cap)).put (some 9) (.slice (some ⟨w.heap.size,0,none⟩) t.length cap)).defers = a.defers:=by rw [put_defers,put_defers,put_defers]
 show wpOpsIn (FW r) n P _ _ [] (((a.put (some 66) (.string ⟨t.toArray⟩)).put (some 67) (.slice (some ⟨w.heap.size,0,none⟩) t.length cap)).put (some 9) (.slice (some ⟨w.heap.size,0,none⟩) t.length cap)) w1
 generalize ((a.put (some 66) (.string ⟨t.toArray⟩)).put (some 67) (.slice (some ⟨w.heap.size,0,none⟩) t.length cap)).put (some 9) (.slice (some ⟨w.heap.size,0,none⟩) t.length cap) = a1 at c1 c2 c3 c4 c5 c6
 show (Code.seq _ _).wpIn (FW r) n P K a1 w1
 refine wpIn_seq (wpIn_region ?_)
 show wpOpsIn (FW r) n P _ _ [0,1,2,3,4,5,6] a1 w1
 refine wpOps_rawB rfl rfl (fun c e=>by cases e) (u:=.slice (some ⟨w.heap.size,0,none⟩) t.length cap) (w':=w1) (by simp [execOp,c1]) ?_
 refine wpOps_rawB rfl rfl (fun c e=>by cases e) (u:=.int .i64 x) (w':=w1) (by simp [execOp,ev_ne,c2]) ?_
 refine wpOps_rawB rfl rfl (fun c e=>by cases e) (u:=.int .i64 dg) (w':=w1) (by simp [execOp,ev_ne,c3]) ?_
 refine wpOps_rawB rfl rfl (fun c e=>by cases e) (u:=.int .i64 (48 + dg)) (w':=w1) (by simp [execOp,ev_const,ev_eq,put_size,c4,l70,hw1,eqGuard,binOp,Op.intArith]) ?_
 refine wpOps_rawB rfl rfl (fun c e=>by cases e) (u:=.int .u8 b.toNat) (w':=w1) (by simp [execOp,ev_eq,put_size,c4,l71,hcvt]) ?_
 refine wpOps_rawB rfl rfl (fun c e=>by cases e) (u:=.pointer (some ⟨w.heap.size,x,none⟩)) (w':=w1) (by simp [execOp,ev_ne,ev_eq,put_size,c4,l68,l69,r2]) ?_
 refine wpOps_rawS rfl rfl (fun c e=>by cases e) (w':=w2) (by simp [execOp,ev_ne,ev_eq,put_size,c4,l72,l73,r3]) ?_
 have v1:(((((((a1.put (some 68) (.slice (some ⟨w.heap.size,0,none⟩) t.length cap)).put (some 69) (.int .i64 x)).put (some 70) (.int .i64 dg)).put (some 71) (.int .i64 (48 + dg))).put (some 72) (.int .u8 b.toNat)).put (some 73) (.pointer (some ⟨w.heap.size,x,none⟩))).put none Go.undef).eval (.tmp 9) = .slice (some ⟨w.heap.size,0,none⟩) t.length cap:=by
  rw [ev_none,ev_ne (by decide),ev_ne (by decide),ev_ne (by decide),ev_ne (by decide),ev_ne (by decide),ev_ne (by decide)]
  exact c1
 have v4:(((((((a1.put (some 68) (.slice (some ⟨w.heap.size,0,none⟩) t.length cap)).put (some 69) (.int .i64 x)).put (some 70) (.int .i64 dg)).put (some 71) (.int .i64 (48 + dg))).put (some 72) (.int .u8 b.toNat)).put (some 73) (.pointer (some ⟨w.heap.size,x,none⟩))).put none Go.undef).tmps.size = st.n:=by rw [put_size,put_size,put_size,put_size,put_size,put_size,put_size,c4]
 have v5:RepT G st.tm (((((((a1.put (some 68) (.slice (some ⟨w.heap.size,0,none⟩) t.length cap)).put (some 69) (.int .i64 x)).put (some 70) (.int .i64 dg)).put (some 71) (.int .i64 (48 + dg))).put (some 72) (.int .u8 b.toNat)).put (some 73) (.pointer (some ⟨w.heap.size,x,none⟩))).put none Go.undef).tmps:=(((((c5.putN k68).putN k69).putN k70).putN k71).putN k72).putN k73
 have v6:(((((((a1.put (some 68) (.slice (some ⟨w.heap.size,0,none⟩) t.length cap)).put (some 69) (.int .i64 x)).put (some 70) (.int .i64 dg)).put (some 71) (.int .i64 (48 + dg))).put (some 72) (.int .u8 b.toNat)).put (some 73) (.pointer (some ⟨w.heap.size,x,none⟩))).put none Go.undef).defers = a.defers:=by rw [put_defers,put_defers,put_defers,put_defers,put_defers,put_defers,put_defers,c6]
 show wpOpsIn (FW r) n P _ _ [] (((((((a1.put (some 68) (.slice (some ⟨w.heap.size,0,none⟩) t.length cap)).put (some 69) (.int .i64 x)).put (some 70) (.int .i64 dg)).put (some 71) (.int .i64 (48 + dg))).put (some 72) (.int .u8 b.toNat)).put (some 73) (.pointer (some ⟨w.heap.size,x,none⟩))).put none Go.undef) w2
 generalize ((((((a1.put (some 68) (.slice (some ⟨w.heap.size,0,none⟩) t.length cap)).put (some 69) (.int .i64 x)).put (some 70) (.int .i64 dg)).put (some 71) (.int .i64 (48 + dg))).put (some 72) (.int .u8 b.toNat)).put (some 73) (.pointer (some ⟨w.heap.size,x,none⟩))).put none Go.undef = a2 at v1 v4 v5 v6
 show (Code.seq _ _).wpIn (FW r) n P K a2 w2
 refine wpIn_seq (wpIn_region ?_)
 have hrg:List.range ops10.size = 0 :: 1 :: List.range' 2 os.length:=by
  rw [← hops,List.range_eq_range',List.size_toArray,List.length_cons,List.length_cons,List.range'_succ,List.range'_succ]
 rw [hrg]
 refine wpOps_rawB (o:={ dst:=some 75,op:=.move (.tmp 9),type:=z0,pos:=q0,after:=g0,guard:=none }) (by rw [← hops];rfl) rfl (fun c e=>by cases e) (u:=.slice (some ⟨w.heap.size,0,none⟩) t.length cap) (w':=w2) (by simp [execOp,v1]) ?_
 refine wpOps_rawB (o:={ dst:=some 76,op:=.convert tB tS (.tmp 75),type:=z1,pos:=q1,after:=g1,guard:=none }) (by rw [← hops];rfl) rfl (fun c e=>by cases e) (u:=.string ⟨(t.set x b).toArray⟩) (w':=w2) (by simp [execOp,ev_eq,v4,l75,r4]) ?_
 refine htail r n G _ w2 db K ⟨hs.rel.keep hbel,?_,?_,?_,hs.rd⟩ k
 ·have:=(v5.putN (u:=.slice (some ⟨w.heap.size,0,none⟩) t.length cap) k75).putD (dst:=some 76) (v:=.str (t.set x b)) (u:=.string ⟨(t.set x b).toArray⟩) (fun d' e'=>by cases e';rw [put_size,v4];exact hn) (.str (by rw [List.length_set];exact ht))
  exact this
 ·rw [put_size,put_size,v4]
 ·obtain ⟨own,h1,h2⟩:=hs.dfr
  exact ⟨own,by rw [put_defers,put_defers,v6];exact h1,h2⟩
end
end Go.Pv
