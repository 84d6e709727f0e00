import Derived.KernelRfl
import Derived.Test.YtmebonambbhehaaGreatQcEval
import Derived.Attr
import Derived.RecoverIn
set_option linter.all false
open Go.Proofs.Tryz
namespace Go.Pv
open Go Go.RowKit Go.Proofs
set_option maxRecDepth 200000
def tbl2(l:List (List TyI))(t:TypeId):TyI :=
 match l[t / 16]? with
 |some r=>(r[t%16]?).getD .none
 |none=>.none
def tno:List TyI:=[]
def tys:List (List TyI) :=
 [[.none,⟨1,8,[.nilf],.fn,none⟩,.none,⟨1,8,[.int .i64 0],.int .i64,(some [.i .i64])⟩,⟨1,1,[.bool false],.bool,(some [.b])⟩,.none,.none,.none,.none,⟨1,16,[.str []],.str,(some [.s])⟩],
  [.none,.none,.none,.none,⟨1,16,[.nili],.iface,none⟩,.none,⟨1,24,[.sl .n []],.slice 54,none⟩,⟨1,24,[.sl .n []],.slice 28,none⟩,.none,⟨2,16,[.int .i64 0,.int .i64 0],.struct [(0,3),(1,3)],(some [.i .i64,.i .i64])⟩,.none,⟨8,96,[.sl .n [],.sl .n [],.int .i64 0,.int .i64 0,.int .i64 0,.int .i64 0,.int .i64 0,.int .i64 0],.struct [(0,22),(1,23),(2,25),(4,25),(6,3),(7,3)],none⟩,⟨1,24,[.sl .n []],.slice 3,none⟩,⟨1,24,[.sl .n []],.slice 44,none⟩,.none,⟨3,40,[.int .i64 0,.int .i64 0,.sl .n []],.struct [(0,3),(1,3),(2,29)],none⟩],
  [.none,.none,.none,⟨1,8,[.nilf],.fn,none⟩,⟨1,24,[.sl .n []],.slice 42,none⟩,⟨1,8,[.int .i64 0],.int .i64,(some [.i .i64])⟩,.none,.none,.none,.none,⟨1,8,[.int .i64 0],.int .i64,(some [.i .i64])⟩,.none,⟨3,24,[.int .i64 0,.int .i64 0,.int .i64 0],.struct [(0,3),(1,3),(2,3)],(some [.i .i64,.i .i64,.i .i64])⟩],
  [.none,.none,.none,⟨1,8,[.nilf],.fn,none⟩,.none,.none,⟨1,8,[.int .i64 0],.int .i64,(some [.i .i64])⟩,.none,⟨1,8,[.nilf],.fn,none⟩,.none,.none,⟨1,24,[.sl .n []],.slice 99,none⟩,⟨1,24,[.sl .n []],.slice 101,none⟩,.none,⟨3,56,[.int .i64 0,.sl .n [],.sl .n []],.struct [(0,3),(1,59),(2,60)],none⟩],
  [⟨4,32,[.int .i64 0,.int .i64 0,.int .i64 0,.int .i64 0],.array 2 25,(some [.i .i64,.i .i64,.i .i64,.i .i64])⟩,.none,⟨7,56,[.int .i64 0,.int .i64 0,.int .i64 0,.int .i64 0,.int .i64 0,.int .i64 0,.int .i64 0],.struct [(0,3),(1,64),(5,25)],(some [.i .i64,.i .i64,.i .i64,.i .i64,.i .i64,.i .i64,.i .i64])⟩,.none,.none,⟨1,8,[.nilm],.map 3 71,none⟩,.none,⟨0,0,[],.struct [],(some [])⟩,.none,⟨1,8,[.nilf],.fn,none⟩,.none,.none,⟨4,64,[.int .i64 0,.int .i64 0,.sl .n [],.sl .n []],.struct [(0,31),(3,28)],none⟩],
  [⟨1,8,[.nilf],.fn,none⟩,.none,⟨1,8,[.int .i64 0],.int .i64,(some [.i .i64])⟩,.none,⟨3,24,[.int .i64 0,.int .i64 0,.int .i64 0],.struct [(0,82),(1,3),(2,3)],(some [.i .i64,.i .i64,.i .i64])⟩,.none,.none,⟨1,24,[.sl .n []],.slice 96,none⟩,.none,.none,.none,.none,⟨1,24,[.sl .n []],.slice 131,none⟩,.none,⟨8,80,[.int .i64 0,.int .i64 0,.int .i64 0,.int .i64 0,.int .i64 0,.int .i64 0,.int .i64 0,.sl .n []],.struct [(0,3),(1,64),(5,25),(7,92)],none⟩],
  [⟨11,136,[.int .i64 0,.sl .n [],.sl .n [],.int .i64 0,.int .i64 0,.int .i64 0,.int .i64 0,.int .i64 0,.int .i64 0,.int .i64 0,.sl .n []],.struct [(0,62),(3,66),(10,28)],none⟩,.none,.none,⟨5,32,[.int .i64 0,.int .i64 0,.int .i64 0,.bool false,.bool false],.struct [(0,3),(1,3),(2,3),(3,4),(4,4)],(some [.i .i64,.i .i64,.i .i64,.b,.b])⟩,.none,⟨2,32,[.int .i64 0,.sl .n []],.struct [(0,3),(1,28)],none⟩,.none,.none,⟨1,8,[.nilf],.fn,none⟩,⟨1,8,[.nilf],.fn,none⟩,.none,⟨1,8,[.nilf],.fn,none⟩,.none,.none,⟨10,128,[.sl .n [],.sl .n [],.int .i64 0,.int .i64 0,.int .i64 0,.int .i64 0,.int .i64 0,.int .i64 0,.int .i64 0,.sl .n []],.struct [(0,27),(8,3),(9,28)],none⟩],
  [⟨1,8,[.nilf],.fn,none⟩,.none,.none,.none,.none,.none,.none,.none,⟨5,104,[.int .i64 0,.sl .n [],.sl .n [],.sl .n [],.sl .n []],.struct [(0,62),(3,28),(4,28)],none⟩,.none,.none,⟨1,8,[.int .i64 0],.int .i64,(some [.i .i64])⟩,.none,.none,⟨1,24,[.sl .n []],.slice 129,none⟩],
  [.none,⟨9,104,[.int .i64 0,.int .i64 0,.int .i64 0,.int .i64 0,.int .i64 0,.int .i64 0,.int .i64 0,.sl .n [],.sl .n []],.struct [(0,94),(8,28)],none⟩,.none,⟨5,40,[.int .i64 0,.int .i64 0,.int .i64 0,.bool false,.int .i64 0],.struct [(0,3),(1,3),(2,3),(3,4),(4,3)],(some [.i .i64,.i .i64,.i .i64,.b,.i .i64])⟩,.none,.none,.none,.none,⟨1,8,[.nilf],.fn,none⟩,.none,.none,⟨1,8,[.nilf],.fn,none⟩,.none,⟨3,24,[.int .i64 0,.int .i64 0,.int .i64 0],.struct [(0,44)],(some [.i .i64,.i .i64,.i .i64])⟩,⟨2,16,[.nilf,.nilf],.array 2 139,none⟩],
  [.none,⟨1,8,[.nilf],.fn,none⟩,⟨1,8,[.nilm],.map 154 71,none⟩,⟨1,8,[.nilf],.fn,none⟩,⟨1,8,[.nilf],.fn,none⟩,.none,.none,⟨2,48,[.sl .n [],.sl .n []],.struct [(0,28),(1,28)],none⟩,⟨10,80,[.int .i64 0,.int .i64 0,.int .i64 0,.int .i64 0,.int .i64 0,.int .i64 0,.int .i64 0,.int .i64 0,.int .i64 0,.int .i64 0],.array 10 3,(some [.i .i64,.i .i64,.i .i64,.i .i64,.i .i64,.i .i64,.i .i64,.i .i64,.i .i64,.i .i64])⟩,.none,⟨11,88,[.int .i64 0,.int .i64 0,.int .i64 0,.int .i64 0,.int .i64 0,.int .i64 0,.int .i64 0,.int .i64 0,.int .i64 0,.int .i64 0,.int .i64 0],.struct [(0,3),(1,152)],(some [.i .i64,.i .i64,.i .i64,.i .i64,.i .i64,.i .i64,.i .i64,.i .i64,.i .i64,.i .i64,.i .i64])⟩],
  [⟨1,8,[.nilf],.fn,none⟩,⟨1,8,[.nilf],.fn,none⟩,.none,.none,⟨1,8,[.int .i64 0],.int .i64,(some [.i .i64])⟩,.none,⟨2,16,[.int .i64 0,.int .i64 0],.struct [(0,3),(1,164)],(some [.i .i64,.i .i64])⟩,.none,.none,⟨8,64,[.int .i64 0,.int .i64 0,.int .i64 0,.int .i64 0,.int .i64 0,.int .i64 0,.int .i64 0,.int .i64 0],.array 4 25,(some [.i .i64,.i .i64,.i .i64,.i .i64,.i .i64,.i .i64,.i .i64,.i .i64])⟩,.none,⟨1,8,[.nilf],.fn,none⟩,⟨1,8,[.nilf],.fn,none⟩],
  [⟨1,8,[.nilf],.fn,none⟩,.none,.none,⟨1,8,[.nilf],.fn,none⟩,.none,.none,.none,.none,.none,.none,⟨1,8,[.int .i64 0],.struct [(0,123)],(some [.i .i64])⟩,.none,⟨1,16,[.str []],.struct [(0,9)],(some [.s])⟩,⟨3,24,[.nilf,.nilf,.nilf],.array 3 35,none⟩,⟨1,8,[.nilf],.fn,none⟩],
  [.none,⟨1,16,[.str []],.struct [(0,9)],(some [.s])⟩],
  [.none,.none,.none,.none,.none,⟨2,16,[.nilf,.nilf],.array 2 136,none⟩],
  tno]
def TT:TypeId->TyI:=tbl2 tys
def tyK:List Nat:=[1,3,4,9,20,22,23,25,27,28,29,31,35,36,37,42,44,51,54,56,59,60,62,64,66,69,71,73,76,80,82,84,87,92,94,96,99,101,104,105,107,110,112,120,123,126,129,131,136,139,141,142,145,146,147,148,151,152,154,160,161,164,166,169,171,172,176,179,186,188,189,190,193,213]
theorem tys_all:(List.range 240).map (fun t=>if tyK.contains t then tyOf prog t else .none)=(List.range 240).map TT:=by kernel_rfl
theorem wR(t:Nat)(h:240<=t):TT t=.none:=by
 unfold TT tbl2;split
 ·rename_i r hr
  have h1:=(DR.1 hr).1;have h2:tys.length=15:=rfl;omega
 ·rfl
theorem hTT:TyT prog TT:=fun (t:Nat) ht=>by
 by_cases h:t<240
 ·have a:=congrArg (fun l=>l[t]?) tys_all
  have e:(if tyK.contains t then tyOf prog t else .none)=TT t:=by
   simpa[-List.contains_eq_mem,h]using a
  cases h3:tyK.contains t
  ·rw[h3]at e
   rw[←e]at ht;cases ht
  ·rw[h3,DZ rfl]at e
   rw[←e]at ht ⊢;exact tyOf_ok _ t ht
 ·rw[wR t (by omega)]at ht
  cases ht
theorem T_1:TT 1=⟨1,8,[.nilf],.fn,none⟩:=rfl
theorem T_3:TT 3=⟨1,8,[.int .i64 0],.int .i64,(some [.i .i64])⟩:=rfl
theorem T_4:TT 4=⟨1,1,[.bool false],.bool,(some [.b])⟩:=rfl
theorem T_9:TT 9=⟨1,16,[.str []],.str,(some [.s])⟩:=rfl
theorem T_20:TT 20=⟨1,16,[.nili],.iface,none⟩:=rfl
theorem T_22:TT 22=⟨1,24,[.sl .n []],.slice 54,none⟩:=rfl
theorem T_23:TT 23=⟨1,24,[.sl .n []],.slice 28,none⟩:=rfl
theorem T_25:TT 25=⟨2,16,[.int .i64 0,.int .i64 0],.struct [(0,3),(1,3)],(some [.i .i64,.i .i64])⟩:=rfl
theorem T_27:TT 27=⟨8,96,[.sl .n [],.sl .n [],.int .i64 0,.int .i64 0,.int .i64 0,.int .i64 0,.int .i64 0,.int .i64 0],.struct [(0,22),(1,23),(2,25),(4,25),(6,3),(7,3)],none⟩:=rfl
theorem T_28:TT 28=⟨1,24,[.sl .n []],.slice 3,none⟩:=rfl
theorem T_29:TT 29=⟨1,24,[.sl .n []],.slice 44,none⟩:=rfl
theorem T_31:TT 31=⟨3,40,[.int .i64 0,.int .i64 0,.sl .n []],.struct [(0,3),(1,3),(2,29)],none⟩:=rfl
theorem T_35:TT 35=⟨1,8,[.nilf],.fn,none⟩:=rfl
theorem T_36:TT 36=⟨1,24,[.sl .n []],.slice 42,none⟩:=rfl
theorem T_37:TT 37=⟨1,8,[.int .i64 0],.int .i64,(some [.i .i64])⟩:=rfl
theorem T_42:TT 42=⟨1,8,[.int .i64 0],.int .i64,(some [.i .i64])⟩:=rfl
theorem T_44:TT 44=⟨3,24,[.int .i64 0,.int .i64 0,.int .i64 0],.struct [(0,3),(1,3),(2,3)],(some [.i .i64,.i .i64,.i .i64])⟩:=rfl
theorem T_51:TT 51=⟨1,8,[.nilf],.fn,none⟩:=rfl
theorem T_54:TT 54=⟨1,8,[.int .i64 0],.int .i64,(some [.i .i64])⟩:=rfl
theorem T_56:TT 56=⟨1,8,[.nilf],.fn,none⟩:=rfl
theorem T_59:TT 59=⟨1,24,[.sl .n []],.slice 99,none⟩:=rfl
theorem T_60:TT 60=⟨1,24,[.sl .n []],.slice 101,none⟩:=rfl
theorem T_62:TT 62=⟨3,56,[.int .i64 0,.sl .n [],.sl .n []],.struct [(0,3),(1,59),(2,60)],none⟩:=rfl
theorem T_64:TT 64=⟨4,32,[.int .i64 0,.int .i64 0,.int .i64 0,.int .i64 0],.array 2 25,(some [.i .i64,.i .i64,.i .i64,.i .i64])⟩:=rfl
theorem T_66:TT 66=⟨7,56,[.int .i64 0,.int .i64 0,.int .i64 0,.int .i64 0,.int .i64 0,.int .i64 0,.int .i64 0],.struct [(0,3),(1,64),(5,25)],(some [.i .i64,.i .i64,.i .i64,.i .i64,.i .i64,.i .i64,.i .i64])⟩:=rfl
theorem T_69:TT 69=⟨1,8,[.nilm],.map 3 71,none⟩:=rfl
theorem T_71:TT 71=⟨0,0,[],.struct [],(some [])⟩:=rfl
theorem T_73:TT 73=⟨1,8,[.nilf],.fn,none⟩:=rfl
theorem T_76:TT 76=⟨4,64,[.int .i64 0,.int .i64 0,.sl .n [],.sl .n []],.struct [(0,31),(3,28)],none⟩:=rfl
theorem T_80:TT 80=⟨1,8,[.nilf],.fn,none⟩:=rfl
theorem T_82:TT 82=⟨1,8,[.int .i64 0],.int .i64,(some [.i .i64])⟩:=rfl
theorem T_84:TT 84=⟨3,24,[.int .i64 0,.int .i64 0,.int .i64 0],.struct [(0,82),(1,3),(2,3)],(some [.i .i64,.i .i64,.i .i64])⟩:=rfl
theorem T_87:TT 87=⟨1,24,[.sl .n []],.slice 96,none⟩:=rfl
theorem T_92:TT 92=⟨1,24,[.sl .n []],.slice 131,none⟩:=rfl
theorem T_94:TT 94=⟨8,80,[.int .i64 0,.int .i64 0,.int .i64 0,.int .i64 0,.int .i64 0,.int .i64 0,.int .i64 0,.sl .n []],.struct [(0,3),(1,64),(5,25),(7,92)],none⟩:=rfl
theorem T_96:TT 96=⟨11,136,[.int .i64 0,.sl .n [],.sl .n [],.int .i64 0,.int .i64 0,.int .i64 0,.int .i64 0,.int .i64 0,.int .i64 0,.int .i64 0,.sl .n []],.struct [(0,62),(3,66),(10,28)],none⟩:=rfl
theorem T_99:TT 99=⟨5,32,[.int .i64 0,.int .i64 0,.int .i64 0,.bool false,.bool false],.struct [(0,3),(1,3),(2,3),(3,4),(4,4)],(some [.i .i64,.i .i64,.i .i64,.b,.b])⟩:=rfl
theorem T_101:TT 101=⟨2,32,[.int .i64 0,.sl .n []],.struct [(0,3),(1,28)],none⟩:=rfl
theorem T_104:TT 104=⟨1,8,[.nilf],.fn,none⟩:=rfl
theorem T_105:TT 105=⟨1,8,[.nilf],.fn,none⟩:=rfl
theorem T_107:TT 107=⟨1,8,[.nilf],.fn,none⟩:=rfl
theorem T_110:TT 110=⟨10,128,[.sl .n [],.sl .n [],.int .i64 0,.int .i64 0,.int .i64 0,.int .i64 0,.int .i64 0,.int .i64 0,.int .i64 0,.sl .n []],.struct [(0,27),(8,3),(9,28)],none⟩:=rfl
theorem T_112:TT 112=⟨1,8,[.nilf],.fn,none⟩:=rfl
theorem T_120:TT 120=⟨5,104,[.int .i64 0,.sl .n [],.sl .n [],.sl .n [],.sl .n []],.struct [(0,62),(3,28),(4,28)],none⟩:=rfl
theorem T_123:TT 123=⟨1,8,[.int .i64 0],.int .i64,(some [.i .i64])⟩:=rfl
theorem T_126:TT 126=⟨1,24,[.sl .n []],.slice 129,none⟩:=rfl
theorem T_129:TT 129=⟨9,104,[.int .i64 0,.int .i64 0,.int .i64 0,.int .i64 0,.int .i64 0,.int .i64 0,.int .i64 0,.sl .n [],.sl .n []],.struct [(0,94),(8,28)],none⟩:=rfl
theorem T_131:TT 131=⟨5,40,[.int .i64 0,.int .i64 0,.int .i64 0,.bool false,.int .i64 0],.struct [(0,3),(1,3),(2,3),(3,4),(4,3)],(some [.i .i64,.i .i64,.i .i64,.b,.i .i64])⟩:=rfl
theorem T_136:TT 136=⟨1,8,[.nilf],.fn,none⟩:=rfl
theorem T_139:TT 139=⟨1,8,[.nilf],.fn,none⟩:=rfl
theorem T_141:TT 141=⟨3,24,[.int .i64 0,.int .i64 0,.int .i64 0],.struct [(0,44)],(some [.i .i64,.i .i64,.i .i64])⟩:=rfl
theorem T_142:TT 142=⟨2,16,[.nilf,.nilf],.array 2 139,none⟩:=rfl
theorem T_145:TT 145=⟨1,8,[.nilf],.fn,none⟩:=rfl
theorem T_146:TT 146=⟨1,8,[.nilm],.map 154 71,none⟩:=rfl
theorem T_147:TT 147=⟨1,8,[.nilf],.fn,none⟩:=rfl
theorem T_148:TT 148=⟨1,8,[.nilf],.fn,none⟩:=rfl
theorem T_151:TT 151=⟨2,48,[.sl .n [],.sl .n []],.struct [(0,28),(1,28)],none⟩:=rfl
theorem T_152:TT 152=⟨10,80,[.int .i64 0,.int .i64 0,.int .i64 0,.int .i64 0,.int .i64 0,.int .i64 0,.int .i64 0,.int .i64 0,.int .i64 0,.int .i64 0],.array 10 3,(some [.i .i64,.i .i64,.i .i64,.i .i64,.i .i64,.i .i64,.i .i64,.i .i64,.i .i64,.i .i64])⟩:=rfl
theorem T_154:TT 154=⟨11,88,[.int .i64 0,.int .i64 0,.int .i64 0,.int .i64 0,.int .i64 0,.int .i64 0,.int .i64 0,.int .i64 0,.int .i64 0,.int .i64 0,.int .i64 0],.struct [(0,3),(1,152)],(some [.i .i64,.i .i64,.i .i64,.i .i64,.i .i64,.i .i64,.i .i64,.i .i64,.i .i64,.i .i64,.i .i64])⟩:=rfl
theorem T_160:TT 160=⟨1,8,[.nilf],.fn,none⟩:=rfl
theorem T_161:TT 161=⟨1,8,[.nilf],.fn,none⟩:=rfl
theorem T_164:TT 164=⟨1,8,[.int .i64 0],.int .i64,(some [.i .i64])⟩:=rfl
theorem T_166:TT 166=⟨2,16,[.int .i64 0,.int .i64 0],.struct [(0,3),(1,164)],(some [.i .i64,.i .i64])⟩:=rfl
theorem T_169:TT 169=⟨8,64,[.int .i64 0,.int .i64 0,.int .i64 0,.int .i64 0,.int .i64 0,.int .i64 0,.int .i64 0,.int .i64 0],.array 4 25,(some [.i .i64,.i .i64,.i .i64,.i .i64,.i .i64,.i .i64,.i .i64,.i .i64])⟩:=rfl
theorem T_171:TT 171=⟨1,8,[.nilf],.fn,none⟩:=rfl
theorem T_172:TT 172=⟨1,8,[.nilf],.fn,none⟩:=rfl
theorem T_176:TT 176=⟨1,8,[.nilf],.fn,none⟩:=rfl
theorem T_179:TT 179=⟨1,8,[.nilf],.fn,none⟩:=rfl
theorem T_186:TT 186=⟨1,8,[.int .i64 0],.struct [(0,123)],(some [.i .i64])⟩:=rfl
theorem T_188:TT 188=⟨1,16,[.str []],.struct [(0,9)],(some [.s])⟩:=rfl
theorem T_189:TT 189=⟨3,24,[.nilf,.nilf,.nilf],.array 3 35,none⟩:=rfl
theorem T_190:TT 190=⟨1,8,[.nilf],.fn,none⟩:=rfl
theorem T_193:TT 193=⟨1,16,[.str []],.struct [(0,9)],(some [.s])⟩:=rfl
theorem T_213:TT 213=⟨2,16,[.nilf,.nilf],.array 2 136,none⟩:=rfl
theorem mixed:prog.follows .mixedOrders=true:=rfl
open Go Go.RowKit
theorem aL.nilRow{st:St}{t:Nat}(h:b9 st.tm t=some (.sl .n []))(e:TypeId)(k:Nat):aL st { tm:=jW st.tm t (.ms st.sg.length 0),n:=st.n,sg:=st.sg++[.row true e k [] false] }:=by
 refine⟨by simp,fun r G a w db hs=>?_⟩
 have hle:=G.push_le (.row (.slice none 0 0) 0 k);have hR:Rel (G.push (.row (.slice none 0 0) 0 k)) (st.sg++[.row true e k [] false]) w:=by
  refine hs.rel.push (Below.refl _ w) (fun g e=>by cases e) ?_
  refine⟨rfl,rfl,by simp,by simp,by simp[flat],⟨[],?_,by simp[flat],fun j c u hc=>by simp[flat]at hc⟩,fun g e=>by cases e⟩
  exact⟨by simp,.inl ⟨rfl,rfl⟩⟩
 refine⟨_,⟨hR,fun s v hv=>?_,hs.n,hs.dfr,fun l hl=>?_⟩,hle.leM _⟩
 ·rw[eR]at hv
  split at hv
  ·rename_i hst
   subst hst;cases hv;obtain⟨u,hu,hr⟩:=hs.tm t _ h;refine⟨u,hu,?_⟩;have hlast:(G.push (.row (.slice none 0 0) 0 k)).rho[st.sg.length]?=some (.row (.slice none 0 0) 0 k):=by
    show(G.rho++[_])[st.sg.length]?=_
    rw[←hs.rel.len,D9 (DS _)];simp
   cases hr with
   |nils=>exact .ms hlast (DS _) rfl fun _=>rfl
   |sl hz=>exact absurd rfl hz
  ·obtain⟨u,hu,hr⟩:=hs.tm s v hv
   exact⟨u,hu,hr.mono hle⟩
 ·obtain⟨id,d,lr,e1,e2⟩:=hs.rd l hl
  obtain⟨s',e1',hle'⟩:=hle.rho id _ e1;cases s' <;> simp only[Slot.le]at hle'
  obtain⟨rfl,rfl⟩:=hle';exact⟨id,d,lr,e1',by rw[DY (DR.1 e2).1];exact e2⟩
theorem am.nilRow{P:Program}{c:Code}{Q:Out->St->Prop}(t:Nat)(e:TypeId)(k:Nat){tm tm':List (Nat×PV)}{n:Nat}{sg:List Box}(h:b9 tm t=some (.sl .n []))(e1:jW tm t (.ms sg.length 0)=tm'){sg':List Box}(e2:sg++[.row true e k [] false]=sg')
 (hq:am P c ⟨tm',n,sg'⟩ Q):am P c ⟨tm,n,sg⟩ Q :=
 am.pre (st1:=⟨tm',n,sg'⟩) (by have:=aL.nilRow (st:=⟨tm,n,sg⟩) h e k;rw[e1,e2]at this;exact this) hq
def oP(me:Meth)(cf:CallF)(T:TypeId->TyI)(ops:Array Oper)(st:St)(o:Oper):Option (Out×St) :=
 match E1 ops st.tm o with
 |some true=>zm me cf noY T st o
 |some false=>if dOk o st.n=true then some (.normal,{ tm:=putD st.tm o.dst (.tuple []),n:=st.n,sg:=st.sg })else none
 |none=>none
def lx(me:Meth)(cf:CallF)(T:TypeId->TyI)(ops:Array Oper)(os:List Oper)(st:St)(Q:Out->St->Prop):Prop :=
 ∃o st',gH me cf noY T ops os st=some (o,st')∧Q o st'
section
variable {P:Program} {T:TypeId->TyI} {me:Meth} {cf:CallF} {ops:Array Oper} {st st1:St} {Q:Out->St->Prop}
theorem lx.nil(h:Q .normal st):lx me cf T ops [] st Q:=⟨_,_,rfl,h⟩
theorem lx.step{o:Oper}{os:List Oper}(h:oP me cf T ops st o=some (.normal,st1))(hq:lx me cf T ops os st1 Q):lx me cf T ops (o::os) st Q:=by
 obtain⟨o',st',h1,h2⟩:=hq;refine⟨o',st',?_,h2⟩;unfold oP at h;unfold gH;split at h
 ·rename_i hw;simp only[hw,h];exact h1
 ·rename_i hw
  split at h <;> cases h
  rename_i hd;simp only[hw,hd,Fy];exact h1
 ·cases h
theorem lx.stop{o:Oper}{os:List Oper}{v:PV}(h:oP me cf T ops st o=some (.panic v,st1))(hq:Q (.panic v) st1):lx me cf T ops (o::os) st Q:=by
 refine⟨_,_,?_,hq⟩;unfold oP at h;unfold gH;split at h
 ·rename_i hw;simp only[hw,h]
 ·split at h <;> cases h
 ·cases h
theorem am.reg{id:Nat}{os:List Oper}(hT:TyT P T)(hcf:CallFOk P cf)(hme:cQ P me)(h:lx me cf T os.toArray os st Q):am P (.region id os.toArray false) st Q:=by
 obtain⟨o,st',h1,h2⟩:=h;exact am.region hT hcf hme (by simpa using h1) h2
def xY(me:Meth)(cf:CallF)(T:TypeId->TyI)(ops:Array Oper)(fid:Nat)(st:St)(o:Oper):Option (DRec×Nat×St) :=
 let new:=mX o.op
 let rb:=if new then fid::gM st.tm o.op else gM st.tm o.op
 let fid':=if new then fid+1 else fid
 if dOk o st.n=true then
  match E1 ops st.tm o with
  |some true=>match opD (pV me cf) T st.tm st.sg fid o.op with
   |some (v,ef)=>if effB ef=true∧(!new||zK st.sg fid)=true then some ({ want:=true,fid,v,ef,rb,full:=none },fid',{ tm:=putD st.tm o.dst v,n:=st.n,sg:=Lm st.sg ef })else none
   |none=>none
  |some false=>some ({ want:=false,fid,v:=.tuple [],ef:=none,rb,full:=none },fid',{ tm:=putD st.tm o.dst (.tuple []),n:=st.n,sg:=st.sg })
  |none=>none
 else none
def AZ(me:Meth)(cf:CallF)(T:TypeId->TyI)(ops:Array Oper)(os:List Oper)(fid:Nat)(st:St)(K:List DRec->St->Prop):Prop :=
 ∃rs st',ya me cf noY T ops os fid st=some (rs,st')∧K rs st'
theorem AZ.nil{fid:Nat}{K:List DRec->St->Prop}(h:K [] st):AZ me cf T ops [] fid st K:=⟨_,_,rfl,h⟩
theorem AZ.step{o:Oper}{os:List Oper}{fid fid':Nat}{r:DRec}{K:List DRec->St->Prop}(h:xY me cf T ops fid st o=some (r,fid',st1))(hq:AZ me cf T ops os fid' st1 (fun rs s=>K (r::rs) s)):AZ me cf T ops (o::os) fid st K:=by
 obtain⟨rs,st',h1,h2⟩:=hq;refine⟨r::rs,st',?_,h2⟩;unfold xY at h;simp only at h;unfold ya;simp only;split at h <;> try (cases h;done)
 rename_i hd;rw[DZ hd];split at h
 ·rename_i hw
  simp only[hw];split at h <;> try (cases h;done)
  rename_i v ef hv;split at h <;> cases h
  rename_i hc;simp only[hv];rw[DZ hc];simp only[app];rw[h1]
 ·rename_i hw
  cases h;simp only[hw,app,Lm];rw[h1]
 ·cases h
theorem am.drawn{id:Nat}{os:List Oper}(ids:List Nat){sg0:List Box}(hT:TyT P T)(hcf:CallFOk P cf)(hme:cQ P me)(hm:P.follows .mixedOrders=true)(hst:iS os.toArray=true)(hsg:bW st.sg ids++List.replicate (fh os) .dead=sg0)
 (h:AZ me cf T os.toArray os st.sg.length { tm:=st.tm,n:=st.n,sg:=sg0 } (fun rs s=>nq os.toArray rs=true∧Q .normal s)):am P (.region id os.toArray true) st Q:=by
 obtain⟨rs,st',h1,h2,h3⟩:=h;obtain⟨a,b,c⟩:=p7 hT hcf sa hme _ _ _ _ _ h1;have hrun:=Run.draw (P:=P) hT (oU hme hcf) hm (id:=id) (ops:=os.toArray) rs (by simpa using b) hst (by simpa using a) h2
 refine⟨_,_,Run.pre ((aL.rows ids st.sg st rfl).trans (aL.deads (fh os) _)) (by rw[hsg];exact hrun),?_⟩
 have:=c 0
 simp only[FX];rw[←this];exact h3
end
class Nx(G:Prop)(S:outParam Prop):Prop where
 go:S->G
theorem nx{G S:Prop}[h:Nx G S](s:S):G:=h.go s
section
variable {P:Program} {T:TypeId->TyI} {me:Meth} {cf:CallF} {ops:Array Oper} {s:St} {Q:Out->St->Prop} {x y:Code} {i:Nat} {v:PV} {I:Nat->St->Prop} {m k k0:Nat}
instance:Nx (lx me cf T ops [] s Q) (Q .normal s):=⟨lx.nil⟩
instance:Nx (am P (.seq x y) s Q) (am P x s (iM P y Q)):=⟨am.seq⟩
instance:Nx (am P (.block i x) s Q) (am P x s (dH i Q)):=⟨am.block⟩
instance:Nx (am P .skip s Q) (Q .normal s):=⟨am.skip⟩
instance:Nx (am P (.label i) s Q) (Q .normal s):=⟨am.label⟩
instance:Nx (am P .ret s Q) (Q .ret s):=⟨am.ret⟩
instance:Nx (am P (.exit i) s Q) (Q (.exit i) s):=⟨am.exit⟩
instance:Nx (sJ P true x y s Q) (am P x s Q):=⟨id⟩
instance:Nx (sJ P false x y s Q) (am P y s Q):=⟨id⟩
instance:Nx (iM P y Q .normal s) (am P y s Q):=⟨id⟩
instance:Nx (iM P y Q .ret s) (Q .ret s):=⟨id⟩
instance:Nx (iM P y Q (.exit i) s) (Q (.exit i) s):=⟨id⟩
instance:Nx (iM P y Q (.panic v) s) (Q (.panic v) s):=⟨id⟩
instance:Nx (dH i Q .normal s) (Q .normal s):=⟨id⟩
instance:Nx (dH i Q .ret s) (Q .ret s):=⟨id⟩
instance:Nx (dH i Q (.exit i) s) (Q .normal s):=⟨dH.x⟩
instance:Nx (dH i Q (.panic v) s) (Q (.panic v) s):=⟨id⟩
instance:Nx (ak P I m i k0 Q .ret s) (Q .ret s):=⟨id⟩
instance:Nx (ak P I m i k0 Q (.exit k) s) (Q (.exit k) s):=⟨id⟩
instance:Nx (ak P I m i k0 Q (.panic v) s) (Q (.panic v) s):=⟨id⟩
end
def wQ:=@dH.y
def wV:=@lx.step
def wW:=@AZ.step
def wX:=@am.condD
def wa:=@AZ.nil
abbrev ii(n:Int):PV:=.int .i64 n
theorem cpv_i64(n:Int)(h1:-9223372036854775808<=n)(h2:n<=9223372036854775807):cpv (.int .i64 n)=some (.int .i64 n):=by
 have hw:(Lit.int .i64 n).wf=true:=by simp[Lit.wf,IntKind.min,IntKind.max,IntKind.signed,IntKind.bits];omega
 simp[cpv,zpv,hw]
theorem cpv_bool(b:Bool):cpv (.bool b)=some (.bool b):=rfl
theorem cpv_nils:cpv (.slice none 0 0)=some (.sl .n []):=rfl
theorem cpv_str(l:List UInt8)(h:l.length<=maxLen):cpv (.string ⟨l.toArray⟩)=some (.str l):=by simp[cpv,zpv,h]
theorem blt_eq(a b:Nat):Nat.blt a b=decide (a<b):=by
 rw[FD];simp[Nat.blt_eq]
theorem ble_eq(a b:Nat):Nat.ble a b=decide (a<=b):=by
 rw[FD];simp
theorem ml0:(0<=maxLen)=True:=FE (by unfold maxLen;omega)
theorem ml1:(1<=maxLen)=True:=FE (by unfold maxLen;omega)
theorem ml2:(2<=maxLen)=True:=FE (by unfold maxLen;omega)
theorem ml3:(3<=maxLen)=True:=FE (by unfold maxLen;omega)
theorem ml4:(4<=maxLen)=True:=FE (by unfold maxLen;omega)
theorem ml5:(5<=maxLen)=True:=FE (by unfold maxLen;omega)
theorem ml6:(6<=maxLen)=True:=FE (by unfold maxLen;omega)
theorem ml7:(7<=maxLen)=True:=FE (by unfold maxLen;omega)
theorem ml8:(8<=maxLen)=True:=FE (by unfold maxLen;omega)
theorem ml9:(9<=maxLen)=True:=FE (by unfold maxLen;omega)
theorem ml10:(10<=maxLen)=True:=FE (by unfold maxLen;omega)
theorem ml11:(11<=maxLen)=True:=FE (by unfold maxLen;omega)
theorem ml12:(12<=maxLen)=True:=FE (by unfold maxLen;omega)
theorem ml16:(16<=maxLen)=True:=FE (by unfold maxLen;omega)
theorem ml32:(32<=maxLen)=True:=FE (by unfold maxLen;omega)
theorem ml64:(64<=maxLen)=True:=FE (by unfold maxLen;omega)
theorem ml100:(100<=maxLen)=True:=FE (by unfold maxLen;omega)
attribute [go_sem] ml0 ml1 ml2 ml3 ml4 ml5 ml6 ml7 ml8 ml9 ml10 ml11 ml12 ml16 ml32 ml64 ml100
theorem bft:(false==true)=false:=rfl
theorem btf:(true==false)=false:=rfl
attribute [go_sem] tG Int.cast_ofNat_Int eqlC eqT eqC eB PV.hasK Option.map_some bne_self_eq_false bW fh iK memN AE trimB ltBT ltBB Box.ltB dl bD PV.ltB List.any_cons List.any_nil
attribute [go_sem] bft btf List.getElem?_toArray oP xY zK mX opD Ly iU dh view1 pV wS ml tF G6 lb ad PV.closed gM tM Op.operands PV.deep1 PV.id1 zm opC E1 dOk evO Ms se evPs cpv_i64 cpv_bool cpv_nils cpv_str x7 ki sgN rk effB Lm putD jW hasT setT b9 binC cmpC unC zj ptrC m4 dK kN dP vl zD BW Dh vC vA aW cL qR TyI.zeroE ed fA yA iW okS lf kz plainV plain1 rowX lenC iI cutC vf gc eU iz maxC TyD.agg TyD.ok PV.ag PV.one PV.cells ik tup res1 resL si gB bR dl aR isLoopB Out.ends aE cf0 noY noM blt_eq ble_eq List.length_cons List.length_nil List.length_append List.length_map List.length_replicate List.length_set List.length_take List.length_drop List.replicate_succ List.replicate_zero List.getElem?_cons_zero List.getElem?_cons_succ List.getElem?_nil List.set_cons_zero List.set_cons_succ List.set_nil List.take_succ_cons List.take_zero List.take_nil List.drop_succ_cons List.drop_zero List.drop_nil List.head?_cons List.headD_cons List.all_cons List.all_nil List.all_append List.isEmpty_cons List.isEmpty_nil List.nil_append List.cons_append List.append_nil List.append_assoc List.toList_toArray List.map_cons List.map_nil List.flatMap_cons List.flatMap_nil List.size_toArray List.reverse_cons Bool.and_true Bool.true_and Bool.and_false Bool.false_and Bool.or_true Bool.true_or Bool.or_false Bool.false_or Bool.not_true Bool.not_false Bool.and_self Bool.or_self beq_self_eq_true Bool.false_eq_true Bool.true_eq_false Bool.and_eq_true decide_true decide_false decide_eq_true_eq true_and and_true false_and and_false ite_true ite_false if_true if_false ne_eq not_false_eq_true not_true_eq_false eq_self and_self Option.some.injEq Int.toNat_natCast Int.natCast_nonneg Int.toNat_zero Int.toNat_one Int.natCast_zero Nat.zero_add Nat.add_zero Nat.zero_mul Nat.one_mul Nat.mul_one Nat.zero_le Nat.le_refl Nat.lt_irrefl Nat.sub_zero Nat.sub_self
attribute [go_sem] T_1 T_3 T_4 T_9 T_20 T_22 T_23 T_25 T_27 T_28 T_29 T_31 T_35 T_36 T_37 T_42 T_44 T_51 T_54 T_56 T_59 T_60 T_62 T_64 T_66 T_69 T_71 T_73 T_76 T_80 T_82 T_84 T_87 T_92 T_94 T_96 T_99 T_101 T_104 T_105 T_107 T_110 T_112 T_120 T_123 T_126 T_129 T_131 T_136 T_139 T_141 T_142 T_145 T_146 T_147 T_148 T_151 T_152 T_154 T_160 T_161 T_164 T_166 T_169 T_171 T_172 T_176 T_179 T_186 T_188 T_189 T_190 T_193 T_213
attribute [go_sem_proc] reduceIte reduceCtorEq reduceDIte Int.reduceToNat Nat.reduceAdd Nat.reduceSub Nat.reduceMul Nat.reduceEqDiff Nat.reduceLT Nat.reduceLeDiff Nat.reduceDiv Nat.reduceMod Nat.reduceBEq Nat.reduceBNe Nat.reduceSucc Int.reduceLE Int.reduceLT Int.reduceNeg Int.reduceEq Int.reduceNe Int.reduceAdd Int.reduceSub Int.reduceMul
theorem wy{cf:CallF}(hcf:CallFOk prog cf){id:Nat}{os:List Oper}{st:St}{Q:Out->St->Prop}{sg0:List Box}(hst:iS os.toArray=true)(hsg:bW st.sg []++List.replicate (fh os) .dead=sg0)
 (h:AZ noM cf TT os.toArray os st.sg.length { tm:=st.tm,n:=st.n,sg:=sg0 } (fun rs s=>nq os.toArray rs=true∧Q .normal s)):am prog (.region id os.toArray true) st Q:=am.drawn [] hTT hcf cP mixed hst hsg h
theorem wz{cf:CallF}(hcf:CallFOk prog cf){id:Nat}{os:List Oper}{st:St}{Q:Out->St->Prop}(h:lx noM cf TT os.toArray os st Q):am prog (.region id os.toArray false) st Q:=am.reg hTT hcf cP h
class Ny(Q:Prop)(α β:outParam Type)(a:outParam α)(f:outParam (β->α))(k:outParam (β->Prop)):Prop where
 go:∀y,a=f y->k y->Q
theorem ny{Q:Prop}{α β:Type}{a:α}{f:β->α}{k:β->Prop}[h:Ny Q α β a f k]{y:β}(e:a=f y)(s:k y):Q:=h.go y e s
class Nz(cf:CallF)(Q:Prop)(K S:outParam Prop):Prop where
 go:CallFOk prog cf->K->S->Q
theorem nz{cf:CallF}{Q K S:Prop}(hcf:CallFOk prog cf)[h:Nz cf Q K S](s:S)(k:K:=by first|exact True.intro|kernel_rfl):Q:=h.go hcf k s
class An(X:Prop)(A B:outParam Prop):Prop where
 go:A->B->X
instance {A B:Prop}:An (A∧B) A B:=⟨And.intro⟩
def Ou{α:Type}(a:α)(k:α->Prop):Prop:=k a
section
variable {P:Program} {T:TypeId->TyI} {me:Meth} {cf cf':CallF} {ops:Array Oper} {o:Oper} {os:List Oper} {st:St} {Q:Out->St->Prop} {i0 j fid:Nat} {K:List DRec->St->Prop}
def DrawZ(me:Meth)(cf:CallF)(T:TypeId->TyI)(ops:Array Oper)(os:List Oper)(K:List DRec->St->Prop)(y:DRec×Nat×St):Prop:=AZ me cf T ops os y.2.1 y.2.2 (fun rs s=>K (y.1::rs) s)
instance {r:DRec}:Nx (DrawZ me cf T ops os K (r,fid,st)) (AZ me cf T ops os fid st (fun rs s=>K (r::rs) s)):=⟨id⟩
instance:Ny (lx me cf T ops (o::os) st Q) (Option (Out×St)) St (oP me cf T ops st o) (fun y=>some (.normal,y)) (fun y=>lx me cf T ops os y Q):=⟨fun _=>lx.step⟩
instance:Ny (AZ me cf T ops (o::os) fid st K) (Option (DRec×Nat×St)) (DRec×Nat×St) (xY me cf T ops fid st o) some (DrawZ me cf T ops os K):=⟨fun _ h q=>AZ.step h q⟩
instance {c:Operand} {x y:Code}:Ny (am P (.cond c x y) st Q) (Option PV) Bool (evO st.tm c) (fun b=>some (.bool b)) (fun b=>sJ P b x y st Q):=⟨fun _=>am.condD⟩
instance {α:Type} {a:α} {k:α->Prop}:Ny (Ou a k) α α a (fun y=>y) k:=⟨fun y e h=>by have e:a=y:=e;subst e;exact h⟩
instance {S S':Prop} [Nx S' S]:Nz cf S' True S:=⟨fun _ _ s=>nx s⟩
instance (priority:=low):Nz cf (dH i0 Q (.exit j) st) (Nat.beq j i0=false) (Q (.exit j) st):=⟨fun _ h k=>dH.y h k⟩
instance:Nz cf (am prog (.region i0 os.toArray false) st Q) True (lx noM cf TT os.toArray os st Q):=⟨fun h _ k=>am.reg hTT h cP k⟩
instance:Nz cf (am prog (.region i0 os.toArray true) st Q) (iS os.toArray=true) (Ou (bW st.sg []++List.replicate (fh os) .dead) fun sg0=>AZ noM cf TT os.toArray os st.sg.length { tm:=st.tm,n:=st.n,sg:=sg0 } (fun rs s=>nq os.toArray rs=true∧Q .normal s)):=⟨fun h k q=>am.drawn [] hTT h cP mixed k rfl q⟩
instance {A B:Prop} [h:An (K [] st) A B]:Nz cf (AZ me cf' T ops [] fid st K) A B:=⟨fun _ a b=>AZ.nil (h.go a b)⟩
end
theorem bx:∀es:List PV,br es (flat es)=es
 |[]=>rfl
 |x::es=>by
  cases x
  case agg c0 =>
   rw[bg];simp only[br,PV.cells,GT,List.drop_left,bx es]
  all_goals
   rw[bg];simp only[PV.cells,EK,EA,br,bx es]
theorem fw:∀(a b:List PV),ad (a++b)=(ad a&&ad b)
 |[],b=>by simp[ad]
 |x::a,b=>by simp only[EK,ad,fw a b,ON]
theorem pE(x:PV)(h:x.closed=true):ad x.cells=true:=by
 cases x <;> simp only[PV.cells,ad,Fi] <;> exact h
theorem bj:∀es:List PV,ad es=true->ad (flat es)=true
 |[],_=>rfl
 |x::es,h=>by
  have h':(x.closed&&ad es)=true:=h;rw[D3]at h';rw[bg,fw,pE x h'.1,bj es h'.2];rfl
theorem aY{α:Type}{g:α->PV}(h:∀a,(g a).closed=true):∀l:List α,ad (l.map g)=true
 |[]=>rfl
 |a::l=>by show((g a).closed&&ad (l.map g))=true;rw[h,aY h l];rfl
mutual
theorem bq(m:Nat):∀v:PV,v.closed=true->v.ltB m=true
 |.bool _,_=>rfl
 |.int _ _,_=>rfl
 |.str _,_=>rfl
 |.nilp,_=>rfl
 |.nilm,_=>rfl
 |.nilf,_=>rfl
 |.nili,_=>rfl
 |.sl _ es,h=>ae m es h
 |.im ks vs,h=>by
  have h':(ad ks&&ad vs)=true:=h;rw[D3]at h'
  show(bD m ks&&bD m vs)=true
  rw[ae m ks h'.1,ae m vs h'.2];rfl
 |.fn _ a b,h=>by
  have h':(ad a&&ad b)=true:=h;rw[D3]at h'
  show(bD m a&&bD m b)=true
  rw[ae m a h'.1,ae m b h'.2];rfl
 |.iface _ v,h=>bq m v h
 |.agg cs,h=>ae m cs h
 |.tuple cs,h=>ae m cs h
 |.ip cs,h=>ae m cs h
 |.ms _ _,h=>by cases h
 |.mp _,h=>by cases h
 |.bp _ _,h=>by cases h
 |.rp _ _ _ _,h=>by cases h
 |.pf _ _ _,h=>by cases h
 |.yl _,h=>by cases h
theorem ae(m:Nat):∀vs:List PV,ad vs=true->bD m vs=true
 |[],_=>rfl
 |v::vs,h=>by
  have h':(v.closed&&ad vs)=true:=h;rw[D3]at h'
  show(v.ltB m&&bD m vs)=true
  rw[bq m v h'.1,ae m vs h'.2];rfl
end
section
variable {d:Option Nat} {n:Nat} {sg:List Box}
theorem aZ{v:PV}(h:v.closed=true):frzX d (n+1) sg v=(v,sg):=by
 unfold frzX;rw[DZ h]
theorem bE:∀(vs:List PV) (sg:List Box),ad vs=true->cO (frzX d (n+1)) sg vs=(vs,sg)
 |[],sg,_=>rfl
 |v::vs,sg,h=>by
  have h':(v.closed&&ad vs)=true:=h;rw[D3]at h';unfold cO;simp only[aZ h'.1,bE vs sg h'.2]
theorem frzX_row{id:Nat}{z:Bool}{e:TypeId}{k:Nat}{es:List PV}{frz:Bool}(h:sg[id]?=some (.row z e k es frz))(hc:ad es=true){m:Nat}(hm:m=es.length):
 frzX d (n+2) sg (.ms id m)=(.sl (if z then .n else .a) es,sg.set id (.row z e k es true)):=by
 subst hm;unfold frzX;rw[D5 (by simp[PV.closed])]
 simp only[fC,h,Fy,uW,bE (flat es) _ (bj es hc),bx]
theorem frzX_tup{vs:List PV}(hc:ad vs=false):frzX d (n+1) sg (.tuple vs)=(.tuple (cO (frzX d n) sg vs).1,(cO (frzX d n) sg vs).2):=by
 unfold frzX;rw[D5 (by simp[PV.closed,hc])]
 rfl
theorem A6{v v':PV}(h:(frzX (some 0) 8 sg v).1=v')(hc:v'.closed=true):bR 0 v sg=(v',[]):=by
 unfold bR;subst h;simp only[Fy,bq 0 _ hc]
theorem leave_row{id:Nat}{z:Bool}{e:TypeId}{k:Nat}{es:List PV}{frz:Bool}(h:sg[id]?=some (.row z e k es frz))(hc:ad es=true){m:Nat}(hm:m=es.length):bR 0 (.ms id m) sg=(.sl (if z then .n else .a) es,[]) :=
 A6 (by rw[frzX_row (n:=6) h hc hm]) hc
theorem aq{v:PV}(hc:v.closed=true):bR 0 v sg=(v,[]):=A6 (by rw[aZ (n:=7) hc]) hc
theorem oG{id:Nat}{z:Bool}{e:TypeId}{k:Nat}{es:List PV}{frz:Bool}(h:sg[id]?=some (.row z e k es frz))(hc:ad es=true){m:Nat}(hm:m=es.length){c:PV}(hcc:c.closed=true):bR 0 (.tuple [.ms id m,c]) sg=(.tuple [.sl (if z then .n else .a) es,c],[]) :=
 A6 (by rw[frzX_tup (n:=7) (by simp[ad,PV.closed])];simp only[cO,frzX_row (n:=5) h hc hm,aZ (n:=6) hcc]) (by simp[PV.closed,ad,hc,hcc])
end
section
variable {P:Program} {T:TypeId->TyI}
theorem ab.ofF(hT:TyT P T){f:FuncId}{fn:Func}{c:Code}{args:List PV}{n0:Nat}{v:PV}(hf:P.funcs[f]?=some fn)(hb:fn.body=some c)(hn0:n0=args.length+(fn.ntmps-args.length))
 (hrun:am P c ⟨ik 0 args,n0,[]⟩ (fun o st'=>o.ends=true∧aR [] st'.sg=true∧∃v',si T st' fn.results=some v'∧bR 0 v' st'.sg=(v,[]))):ab P f args [] (.ret v) []:=by
 obtain⟨o,st',hr,h1,h2,v',h3,h4⟩:=hrun;have:=iw (ab.body hT hf hb hn0 hr h1 h3 (aD _ _ h2))
 simp only[ET]at this;rw[h4]at this;exact this
end
end Go.Pv
namespace Go.Pv
open Go Go.RowKit
def dJ(P:Program)(c:Code)(st:St)(out:Out)(st':St):Prop :=
 st.sg.length<=st'.sg.length∧∀(n:Nat) (G:Gh) (a:Act) (w:World) (Q:Exit->Act->World->Prop),Rel G st.sg w->RepT G st.tm a.tmps->a.tmps.size=st.n ->
  (∀e a' w' G',oi G' out e->Rel G' st'.sg w'->RepT G' st'.tm a'.tmps->a'.tmps.size=st'.n->a'.defers=a.defers->G'.dfr=G.dfr->Gh.leM st.sg.length G G'->Q e a' w')->c.wpIn (FW none) n P Q a w
def gr(P:Program)(ops:Array Oper)(l:List Nat)(st st':St):Prop :=
 st.sg.length<=st'.sg.length∧∀(n:Nat) (G:Gh) (a:Act) (w:World) (Q:Exit->Act->World->Prop),Rel G st.sg w->RepT G st.tm a.tmps->a.tmps.size=st.n ->
  (∀a' w' G',Rel G' st'.sg w'->RepT G' st'.tm a'.tmps->a'.tmps.size=st'.n->a'.defers=a.defers->G'.dfr=G.dfr->Gh.leM st.sg.length G G'->Q .normal a' w')->wpOpsIn (FW none) n P ops Q l a w
section
variable {P:Program} {T:TypeId->TyI} {st st' st1:St} {out:Out}
theorem dJ.seq{x y:Code}(h1:dJ P x st .normal st1)(h2:dJ P y st1 out st'):dJ P (.seq x y) st out st' :=
 ⟨Em h1.1 h2.1,fun n G a w Q hR hT hn k=>wpIn_seq (h1.2 n G a w _ hR hT hn fun e a' w' G' he r1 r2 r3 r4 r5 r6=>by
  obtain rfl:=he.normal';exact h2.2 n G' a' w' Q r1 r2 r3 fun e a'' w'' G'' he s1 s2 s3 s4 s5 s6=>k _ _ _ G'' he s1 s2 s3 (s4.trans r4) (s5.trans r5) (r6.trans s6 h1.1))⟩
theorem dJ.cond{c:Operand}{b:Bool}{x y:Code}(hc:evO st.tm c=some (.bool b))(h1:dJ P (if b then x else y) st out st1):dJ P (.cond c x y) st out st1 :=
 ⟨h1.1,fun n G a w Q hR hT hn k=>wpIn_cond (Lv (aH hT hc)) (h1.2 n G a w Q hR hT hn k)⟩
theorem dJ.block{id:Nat}{c:Code}(h1:dJ P c st out st1):dJ P (.block id c) st (out.inBlock id) st1 :=
 ⟨h1.1,fun n G a w Q hR hT hn k=>wpIn_block (h1.2 n G a w _ hR hT hn fun e a' w' G' he r1 r2 r3 r4 r5 r6=>by
  cases out <;> cases e <;> try exact he.elim
  ·exact k _ _ _ G' trivial r1 r2 r3 r4 r5 r6
  ·cases he
   simp only[Exit.inBlock,Out.inBlock]at k ⊢;split
   ·rename_i hid
    rw[DZ hid]at k;exact k _ _ _ G' trivial r1 r2 r3 r4 r5 r6
   ·rename_i hid
    rw[D5 hid]at k;exact k _ _ _ G' rfl r1 r2 r3 r4 r5 r6
  ·exact k _ _ _ G' he r1 r2 r3 r4 r5 r6
  ·exact k _ _ _ G' trivial r1 r2 r3 r4 r5 r6
  ·exact k _ _ _ G' he r1 r2 r3 r4 r5 r6)⟩
theorem dJ.region{id:Nat}{ops:Array Oper}(h:gr P ops (List.range ops.size) st st1):dJ P (.region id ops false) st .normal st1 :=
 ⟨h.1,fun n G a w Q hR hT hn k=>wpIn_region (h.2 n G a w Q hR hT hn fun a' w' G'=>k .normal a' w' G' trivial)⟩
theorem gr.nil(ops:Array Oper)(st:St):gr P ops [] st st:=⟨DS _,fun n G a w Q hR hT hn k=>k a w G hR hT hn rfl rfl (bK _ _)⟩
theorem gr.cons(hT:TyT P T){ops:Array Oper}{i:Nat}{rest:List Nat}{o:Oper}(hi:ops[i]?=some o)(hw:E1 ops st.tm o=some true)(hd:∀d,o.dst=some d->d<st.n){v:PV}{ef:Eff}(h:opC T st.tm (sgN o.op st.sg) st.sg.length o.op=some (v,ef))
 (h2:gr P ops rest { tm:=putD st.tm o.dst v,n:=st.n,sg:=Lm (sgN o.op st.sg) ef } st'):gr P ops (i::rest) st st':=by
 have hlen:st.sg.length<=(Lm (sgN o.op st.sg) ef).length:=by
  have:(Lm (sgN o.op st.sg) ef).length=(sgN o.op st.sg).length:=by unfold Lm;cases ef <;> simp
  rw[this];unfold sgN;split <;> simp
 refine⟨Em hlen h2.1,fun n G a w Q hR hTm hn k=>?_⟩
 have hwt:=kn hTm hw;simp only[wpOpsIn,hi,hwt,Fy];refine⟨fun f _=>trivial,?_⟩
 have hG0:∃G0,Rel G0 (sgN o.op st.sg) w∧G.le G0∧G0.dfr=G.dfr:=by
  unfold sgN;split
  ·exact⟨_,g9 hR,G.push_le _,rfl⟩
  ·exact⟨G,hR,G.le_refl,rfl⟩
 obtain⟨G0,hR0,hl0,hdf0⟩:=hG0;have hfree:rk o.op=true->jT (sgN o.op st.sg) st.sg.length:=fun hn=>by unfold sgN jT;rw[DZ hn];simp
 obtain⟨u,w',G',hrun,hR',hl',hdf',hv⟩:=op_ok (P:=P) (o:=o) hT hR0 (hTm.mono hl0) hfree h;have hle:=Gh.le_trans hl0 hl';have hsem:o.semAt (FW none).round a.eval=execOp a.eval o:=Oper.semAt_eq _ _ _ (mR h);rw[hsem];have:=h2.2 n G' (a.put o.dst u) w' Q hR' ((hTm.mono hle).putD (fun d e=>hn▸hd d e) hv) ((cD a o.dst u).trans hn) fun a'' w'' G'' s1 s2 s3 s4 s5 s6 =>
  k a'' w'' G'' s1 s2 s3 (by rw[s4,bO]) (s5.trans (hdf'.trans hdf0)) ((hle.leM st.sg.length).trans s6 hlen)
 rcases hrun with hrun|⟨hrun,rfl⟩ <;> rw[hrun] <;> exact this
def gI(T:TypeId->TyI)(ops:Array Oper):List Oper->St->Option St
 |[],st=>some st
 |o::os,st=>match E1 ops st.tm o with
  |some true=>if dOk o st.n=true then match opC T st.tm (sgN o.op st.sg) st.sg.length o.op with
   |some (v,ef)=>gI T ops os { tm:=putD st.tm o.dst v,n:=st.n,sg:=Lm (sgN o.op st.sg) ef }
   |none=>none
   else none
  |_=>none
theorem HI(hT:TyT P T){ops:Array Oper}:∀(os:List Oper) (i:Nat) (st:St),(∀(j:Nat) (o:Oper),os[j]?=some o->ops[i+j]?=some o)->gI T ops os st=some st'->gr P ops (List.range' i os.length) st st'
 |[],i,st,_,h=>by cases h;exact gr.nil ops _
 |o::os,i,st,hos,h=>by
  have hi:ops[i]?=some o:=hos 0 o rfl;have hos':∀(j:Nat) (o:Oper),os[j]?=some o->ops[i+1+j]?=some o:=fun j o' hj=>by
   have:=hos (j+1) o' (by simpa using hj)
   rw[show i+1+j=i+(j+1)by omega]
   exact this
  rw[Ek,Fd];unfold gI at h;split at h <;> try (cases h;done)
  split at h <;> try (cases h;done)
  split at h <;> try (cases h;done)
  rename_i hw hd _ v ef hv;exact gr.cons hT hi hw (jU hd) hv (HI hT os (i+1) _ hos' h)
theorem dJ.regionL(hT:TyT P T){id:Nat}{os:List Oper}(h:gI T os.toArray os st=some st'):dJ P (.region id os.toArray false) st .normal st':=by
 refine dJ.region ?_;rw[F6];have:=HI (P:=P) hT os 0 st (fun j o hj=>by rw[EG];simpa using hj) h
 simpa using this
inductive Mode where
 |ret
 |pan (v:PV)
def Mode.rv:Mode->PV
 |.ret=>.nili
 |.pan v=>v
def Af(G:Gh):Mode->FrameMode->FrameMode->Prop
 |.ret,u,u'=>u=.returning∧u'=.returning
 |.pan v,u,u'=>∃x,Rep G v x∧u=.panicking [{ v:=x,recovered:=false }]∧u'=.panicking [{ v:=x,recovered:=true }]
theorem tL(hT:TyT P T){f:FuncId}{fn:Func}{d:Nat}{id0:Nat}{pos:String}{ty:TypeId}{rest:Code}{cap:List PV}{sg:List Box}{m:Mode}
 (hf:P.funcs[f]?=some fn) (hb:fn.body=some (.seq (.region id0 #[{ dst:=some d,op:=.call { callee:=.builtin .recover,args:=#[],argTypes:=#[] },type:=ty,pos:=pos,after:=#[],guard:=none }] false) rest))
 (hres:fn.results=#[]) (hd:d<cap.length+(fn.ntmps-cap.length)) (hrest:dJ P rest ⟨jW (ik 0 cap) d m.rv,cap.length+(fn.ntmps-cap.length),sg⟩ .normal st')
 {n:Nat} {G:Gh} {w:World} {us:Array Value} {u u':FrameMode} (hR:Rel G sg w) (hL:RepL G cap us) (hm:Af G m u u') :
 CallsDIn Fence.wide n P f us u w fun e u'' w'=>(∃v,e=.returned v)∧u''=u'∧∃G',Rel G' st'.sg w'∧Gh.leM sg.length G G'∧G'.dfr=G.dfr:=by
 refine callsDIn_of_wpSIn hf hb trivial fun c₀ cs hu=>wpSIn_seq (wpSIn_region ?_)
 have fin:∀(x:Value) (c1:Frame),Rep G m.rv x->c1={ c₀ with mode:=u' } ->
  rest.wpSIn Fence.wide n P (bodyPostS P fn c₀ cs fun e u'' w'=>(∃v,e=.returned v)∧u''=u'∧∃G',Rel G' st'.sg w'∧Gh.leM sg.length G G'∧G'.dfr=G.dfr) (({ tmps:=us++Array.replicate (fn.ntmps-us.size) Go.undef,defers:=[] }:Act).put (some d) x) (c1::cs) w:=by
  intro x c1 hx hc1;refine wpSIn_of_wpIn rfl (hrest.2 n G _ w _ hR ?_ ?_ fun e a' w' G' he r1 r2 r3 r4 r5 r6=>?_)
  ·exact(fY hL _).putD (dst:=some d) (fun d' e=>by cases e;simp[hL.1];omega) hx
  ·rw[cD];simp[hL.1]
  ·obtain rfl:=he.normal'
   refine⟨r4,u',by rw[hc1],?_⟩
   obtain⟨y,hy,_⟩:=qc (P:=P) (T:=T) (fn:=fn) (st:=st') hT r1 r2 (v:=.tuple []) (by rw[hres];rfl)
   exact⟨y,hy,⟨_,rfl⟩,rfl,G',r1,r6,r5⟩
 show wpOpsSIn Fence.wide n P _ _ [0] _ _ _;simp only[wpOpsSIn,Gg,Fu];refine⟨fun f _=>trivial,?_⟩
 have hwt:Region.wanted ({ dst:=some d,op:=.call { callee:=.builtin .recover,args:=#[],argTypes:=#[] },type:=ty,pos:=pos,after:=#[],guard:=none }:Oper) (yielded #[{ dst:=some d,op:=.call { callee:=.builtin .recover,args:=#[],argTypes:=#[] },type:=ty,pos:=pos,after:=#[],guard:=none }] (us++Array.replicate (fn.ntmps-us.size) Go.undef))=true:=rfl;rw[DZ hwt];have hex:∀(a:Act),(execOp a.eval ({ dst:=some d,op:=.call { callee:=.builtin .recover,args:=#[],argTypes:=#[] },type:=ty,pos:=pos,after:=#[],guard:=none }:Oper)).run P w=.ok .recover w:=by
  intro a;simp[execOp,resolve,invoke,builtin]
 rw[hex];simp only;cases m with
 |ret =>
  obtain⟨rfl,rfl⟩:=hm;have hrec:recoverD (c₀::cs)=none:=by simp[recoverD,hu]
  rw[hrec];simp only;exact fin .nilIface c₀ .nili (by rw[←hu])
 |pan v =>
  obtain⟨x,hx,rfl,rfl⟩:=hm;have hrec:recoverD (c₀::cs)=some (x,{ c₀ with mode:=.panicking [{ v:=x,recovered:=true }] }::cs):=by simp[recoverD,hu]
  rw[hrec];simp only;exact fin x _ hx rfl
end
section
variable {P:Program} {T:TypeId->TyI} {st st' st1:St} {out:Out}
theorem dJ.ret(st:St):dJ P .ret st .ret st:=⟨DS _,fun n G a w Q hR hT hn k=>wpIn_ret (k .ret a w G trivial hR hT hn rfl rfl (bK _ _))⟩
theorem ab.plain(hT:TyT P T){f:FuncId}{fn:Func}{c:Code}{args:List PV}{sg:List Box}{n0:Nat}(hf:P.funcs[f]?=some fn)(hb:fn.body=some c)(hn0:n0=args.length+(fn.ntmps-args.length))
 (hrun:dJ P c ⟨ik 0 args,n0,sg⟩ out st') (hout:out.ends=true) {v:PV} (hres:si T st' fn.results=some v) (hsl:SameLoops sg st'.sg):ab P f args sg (.ret v) st'.sg:=by
 refine⟨hrun.1,fun n G w us hR hL=>callsIn_of_wp_marks hf hb trivial ?_⟩
 refine hrun.2 n G _ w _ hR (fY hL _) (by simp[hn0,hL.1]) fun e a' w' G' he r1 r2 r3 r4 r5 hl=>?_
 have hlp:∀(id g d:Nat) (lr:LoopR),G'.rho[id]?=some (.lp g d)->st'.sg[id]?=some (.loop lr)->d∈G.dfr:=fun id g d lr e1 e2=>by
  obtain⟨lr0,h0⟩:=hsl.2 id lr e2;obtain⟨s0,hs0,hok⟩:=hR.slot h0;cases s0 <;> simp only[BoxOk]at hok
  obtain⟨_,tm,_,_,_,hd⟩:=hok;obtain⟨s1,e1',hle⟩:=hl.rho id _ (DR.1 h0).1 hs0;rw[e1]at e1';cases e1';obtain⟨_,rfl⟩:=hle;exact hd
 have fin:LeavesInM Fence.wide n P fn a'.tmps (fun e w'=>∃G',Rel G' st'.sg w'∧Gh.leM sg.length G G'∧G'.dfr=G.dfr∧match PRes.ret v,e with
  |.ret v,.returned u=>Rep G' v u
  |.pan v,.panicked ch=>∃u,ch=[{ v:=u,recovered:=false }]∧Rep G' v u
  |_,_=>False) a'.defers .returning w':=by
  rw[r4];refine eN (by simp) [] G' w' r1 (by rw[r5];rfl) FI (fun D h=>by cases h) hlp fun G2 w2 hR2 hle2 hdf2=>?_
  obtain⟨u,hu,hr⟩:=qc (P:=P) (fn:=fn) hT hR2 (r2.mono hle2) hres;exact⟨u,hu,G2,hR2,hl.trans (hle2.leM st'.sg.length) hrun.1,hdf2,hr⟩
 cases out <;> cases e <;> first|exact fin|exact he.elim|cases hout
end
section
variable {P:Program}
theorem rh{G:Gh}{sg:List Box}{w:World}(hR:Rel G sg w){args args1:List PV}{us:Array Value}(hL:RepL G args us)(h:iU (dh sg) args=some args1):
 ∃G',Rel G' sg w∧G.le G'∧G'.dfr=G.dfr∧RepL G' args1 us:=by
 obtain⟨G1,a1,a2,a3,a4,a5,_⟩:=kw (dh sg) (fun hR hv h=>jh hR hv h) (us:=us.toList) hR (by simpa using hL.1) (fun j c u hc hu=>hL.2 j c u hc (by simpa using hu)) h
 exact⟨G1,a1,a2,a3,by rw[a4];exact hL.1,fun j c u hc hu=>a5 j c u hc (by simpa using hu)⟩
theorem tx:∀(vs:List PV) (k j:Nat) (v:PV),vs[j]?=some v->b9 (ik k vs) (k+j)=some v
 |[],k,j,v,h=>by simp at h
 |x::vs,k,0,v,h=>by
  cases h;unfold ik b9;simp
 |x::vs,k,j+1,v,h=>by
  have:=tx vs (k+1) j v (by simpa using h)
  unfold ik b9;rw[show k+(j+1)=k+1+j by omega,D5 (by omega)]
  exact this
theorem ab.ghost{f:FuncId}{args args1:List PV}{sg sg1 sg':List Box}{r:PRes}(h:ab P f args1 sg1 r sg')(hg:aL ⟨ik 0 args,args.length,sg⟩ ⟨ik 0 args,args.length,sg1⟩)(hv:iU (dh sg1) args=some args1):ab P f args sg r sg':=by
 refine⟨Em hg.1 h.1,fun n G w us hR hL=>?_⟩
 have hS:RelS G ⟨ik 0 args,args.length,sg⟩ { tmps:=us,defers:=[] } w none (G.dfr,[]) :=
  ⟨hR,by simpa using fY hL 0,by simp[hL.1],⟨[],rfl,rfl,FI,(fun D h=>by cases h),fun _=>rfl⟩,fun l h=>by cases h⟩
 obtain⟨G1,hS1,hl1⟩:=hg.2 none G _ w _ hS;have hd1:G1.dfr=G.dfr:=by
  obtain⟨own,h1,h2,_⟩:=hS1.dfr;have:own=[]:=by
   have h1':[]=own.map markD++[]:=h1;simpa using h1'.symm
  rw[h2,this];rfl
 have hL1:RepL G1 args us:=⟨hL.1,fun j c u hc hu=>by
  obtain⟨x,hx,hr⟩:=hS1.tm j c (by simpa using tx args 0 j c hc)
  rw[hx]at hu;cases hu;exact hr⟩
 obtain⟨G2,b1,b2,b3,b4⟩:=rh hS1.rel hL1 hv;refine CallsIn.mono (h.2 n G2 w us b1 b4) fun e w' ⟨G3,c1,c2,c3,c4⟩=>⟨G3,c1,?_,by rw[c3,b3,hd1],c4⟩
 exact hl1.trans ((b2.leM sg1.length).trans c2 (DS _)) hg.1
theorem ab.ofS{T:TypeId->TyI}(hT:TyT P T){f:FuncId}{fn:Func}{c:Code}{args:List PV}{sg sg':List Box}{n0:Nat}{v:PV}(hf:P.funcs[f]?=some fn)(hb:fn.body=some c)(hn0:n0=args.length+(fn.ntmps-args.length))
 (hrun:am P c ⟨ik 0 args,n0,sg⟩ (fun o st'=>o.ends=true∧aR sg st'.sg=true∧∃v',si T st' fn.results=some v'∧gB sg.length v' st'.sg=(v,sg'))):ab P f args sg (.ret v) sg':=by
 obtain⟨o,st',hr,h1,h2,v',h3,h4⟩:=hrun;have:=jF (ab.body hT hf hb hn0 hr h1 h3 (aD _ _ h2))
 rw[h4]at this;exact this
def Ad(c:List PV->List Box->Option (PRes×List Box))(args:List PV)(sg:List Box):Option (PRes×List Box) :=
 let sg1:=bW sg (args.flatMap PV.deep1)
 match iU (dh sg1) args with
 |some args1=>if aR sg sg1=true then c args1 sg1 else none
 |none=>none
theorem dU.frz{f:FuncId}{c:List PV->List Box->Option (PRes×List Box)}(h:dU P f c):dU P f (Ad c):=fun args sg r sg' e=>by
 unfold Ad at e;simp only at e;split at e <;> try (cases e;done)
 rename_i args1 hv;split at e <;> try (cases e;done)
 rename_i hsl;obtain⟨h1,h2,h3⟩:=h _ _ _ _ e;exact⟨h1,h2.ghost (aL.rows (args.flatMap PV.deep1) sg ⟨ik 0 args,args.length,sg⟩ rfl) hv,(aD _ _ hsl).trans h3⟩
end
theorem aL.view{tm:List (Nat×PV)}{n:Nat}{sg:List Box}{t:Nat}{v v1:PV}(h:b9 tm t=some v)(hv:dh sg v=some v1):aL ⟨tm,n,sg⟩ ⟨jW tm t v1,n,sg⟩:=by
 refine⟨DS _,fun r G a w db hs=>?_⟩
 obtain⟨u,hu,hr⟩:=hs.tm t v h;obtain⟨G1,a1,a2,a3,a4,_⟩:=jh hs.rel hr hv;refine⟨G1,⟨a1,fun s x hx=>?_,hs.n,by rw[a3];exact hs.dfr,fun l hl=>?_⟩,a2.leM _⟩
 ·rw[eR]at hx
  split at hx
  ·rename_i hst
   subst hst;cases hx;exact⟨u,hu,a4⟩
  ·obtain⟨y,hy,hyr⟩:=hs.tm s x hx
   exact⟨y,hy,hyr.mono a2⟩
 ·obtain⟨id,d,lr,e1,e2⟩:=hs.rd l hl
  obtain⟨s',e1',hle'⟩:=a2.rho id _ e1;cases s' <;> simp only[Slot.le]at hle'
  obtain⟨rfl,rfl⟩:=hle';exact⟨id,d,lr,e1',e2⟩
theorem am.freeze{P:Program}{c:Code}{Q:Out->St->Prop}(t id:Nat){tm tm':List (Nat×PV)}{n m k:Nat}{e:TypeId}{sg sg':List Box}{es:List PV}(h:b9 tm t=some (.ms id m))(hb:sg[id]?=some (.row false e k es false))
 (hm:es.length=m) (hc:ad es=true) (e1:sg.set id (.row false e k es true)=sg') (e2:jW tm t (.sl .a es)=tm') (hq:am P c ⟨tm',n,sg'⟩ Q):am P c ⟨tm,n,sg⟩ Q:=by
 have hrows:bW sg [id]=sg':=by
  unfold bW;simp only[hb,bW];rw[bE (n:=4) (flat es) sg (bj es hc)];simp only[bx];exact e1
 have hid:sg'[id]?=some (.row false e k es true):=by
  rw[←e1];exact D4 (DR.1 hb).1
 have hv:dh sg' (.ms id m)=some (.sl .a es):=by
  show view1 sg' (.ms id m)=_;unfold view1;simp[hid,hm]
 have g1:aL ⟨tm,n,sg⟩ ⟨tm,n,sg'⟩:=by
  have:=aL.rows [id] sg ⟨tm,n,sg⟩ rfl
  rw[hrows]at this;exact this
 have g2:aL ⟨tm,n,sg'⟩ ⟨tm',n,sg'⟩:=by
  have:=aL.view (n:=n) (sg:=sg') h hv
  rw[e2]at this;exact this
 exact am.pre (g1.trans g2) hq
theorem kL.keep{P:Program}{k0:Nat}(ts:List Nat){tm tm':List (Nat×PV)}{n:Nat}{sg:List Box}(e:iK ts tm=tm'):kL P k0 ⟨tm,n,sg⟩ ⟨tm',n,sg⟩ :=
 kL.ghost (aL.tm (st:=⟨tm,n,sg⟩) (tm':=tm') fun t v h'=>by rw[←e]at h';exact eK h')
inductive FoldR(R:List PV->List Box->Bool->List Box->Prop):List (List PV)->List Box->Bool->List Box->Prop
 |nil (low:List Box):FoldR R [] low true low
 |stop {e:List PV} {es:List (List PV)} {low low':List Box} (h:R e low false low'):FoldR R (e::es) low false low'
 |next {e:List PV} {es:List (List PV)} {low low1 low':List Box} {b:Bool} (h:R e low true low1) (k:FoldR R es low1 b low'):FoldR R (e::es) low b low'
section
variable {R:List PV->List Box->Bool->List Box->Prop}
theorem FoldR.split:∀{a b:List (List PV)} {low low':List Box} {r:Bool},FoldR R (a++b) low r low'->(r=false∧FoldR R a low false low')∨∃low1,FoldR R a low true low1∧FoldR R b low1 r low'
 |[],b,low,low',r,h=>.inr ⟨low,.nil low,h⟩
 |e::a,b,low,low',r,h=>by
  cases h with
  |stop h=>exact .inl ⟨rfl,.stop h⟩
  |next h k =>
   rcases FoldR.split (a:=a) k with ⟨hr,h2⟩|⟨low1,h2,h3⟩
   ·subst hr;exact .inl ⟨rfl,.next h h2⟩
   ·exact .inr ⟨low1,.next h h2,h3⟩
end
def OwnOk(m:Nat)(own:List Box):Prop:=∀b∈own,b.Lt (m+own.length)
theorem Box.Lt.mono{m n:Nat}(hmn:m<=n){b:Box}(h:b.Lt m):b.Lt n:=by
 cases b <;> first|exact trivial|skip
 ·exact fun c hc=>(h c hc).mono hmn
 ·exact fun c hc=>(h c hc).mono hmn
 ·exact⟨fun c hc=>(h.1 c hc).mono hmn,fun c hc=>(h.2 c hc).mono hmn⟩
 ·exact fun t v e=>(h t v e).mono hmn
def YR(P:Program)(id:Nat)(e:List PV)(low:List Box)(b:Bool)(low':List Box):Prop :=
 low'.length=low.length∧OwnOk 0 low'∧∀own,OwnOk low.length own->YieldOk P id e (low++own) (.ret (.bool b)) (low'++own)∧SameLoops (low++own) (low'++own)
def IterG(Y:Nat->List PV->List Box->Bool->List Box->Prop)(P:Program)(g:FuncId)(argsOf:Nat->List PV)(L:List (List PV)):Prop :=
 ∀id low b low',OwnOk 0 low->id<low.length->FoldR (Y id) L low b low'->∃v,ab P g (argsOf id) low (.ret v) low'∧SameLoops low low'
def uN(P:Program)(g:FuncId)(argsOf:Nat->List PV)(L:List (List PV)):Prop:=IterG (YR P) P g argsOf L
structure YOk(Y:List PV->List Box->Bool->List Box->Prop):Prop where
 len:∀{e low b low'},Y e low b low'->low'.length=low.length∧OwnOk 0 low'
 same:∀{e low b low'},Y e low b low'->∀own,OwnOk low.length own->SameLoops (low++own) (low'++own)
theorem YR.ok(P:Program)(id:Nat):YOk (YR P id):=⟨fun h=>⟨h.1,h.2.1⟩,fun h own ho=>(h.2.2 own ho).2⟩
theorem YOk.lens{Y:List PV->List Box->Bool->List Box->Prop}(hY:YOk Y):∀{L:List (List PV)} {low low':List Box} {b:Bool},FoldR Y L low b low'->OwnOk 0 low->low'.length=low.length∧OwnOk 0 low'
 |[],_,_,_,h,ho=>by cases h;exact⟨rfl,ho⟩
 |e::L,_,_,_,h,ho=>by
  cases h with
  |stop h=>exact hY.len h
  |next h k =>
   obtain⟨a,b⟩:=hY.lens k (hY.len h).2;exact⟨a.trans (hY.len h).1,b⟩
theorem YOk.sames{Y:List PV->List Box->Bool->List Box->Prop}(hY:YOk Y){own:List Box}:∀{L:List (List PV)} {low low':List Box} {b:Bool},FoldR Y L low b low'->OwnOk low.length own->SameLoops (low++own) (low'++own)
 |[],_,_,_,h,ho=>by cases h;exact SameLoops.refl _
 |e::L,_,_,_,h,ho=>by
  cases h with
  |stop h=>exact hY.same h own ho
  |next h k=>exact(hY.same h own ho).trans (hY.sames k (by rw[(hY.len h).1];exact ho))
theorem LC{P:Program}{id:Nat}{L:List (List PV)}{low low':List Box}{b:Bool}(h:FoldR (YR P id) L low b low')(ho:OwnOk 0 low):low'.length=low.length∧OwnOk 0 low':=(YR.ok P id).lens h ho
def jv(tm:List (Nat×PV))(n:Nat)(ps:List Nat)(as0 b:Code)(s:LoopState)(p:Option Code):LoopR:={ tm:=tm,n:=n,params:=ps,assign:=as0,body:=b,st:=s,pend:=p }
section
variable {P:Program} {tm:List (Nat×PV)} {n:Nat} {ps:List Nat} {as0 b:Code}
def YRunT(P:Program)(tm:List (Nat×PV))(n:Nat)(ps:List Nat)(as0 b:Code)(s own own':List Box)(e:List PV)(out:Out)(s':List Box):Prop :=
 am P as0 ⟨oS tm ps e,n,s++(.loop (jv tm n ps as0 b .ready none)::own)⟩ (fun o s1=>o=.normal∧∃B,s1.sg=s++(.loop (jv tm n ps as0 b .ready none)::B) ∧
  am P b ⟨s1.tm,s1.n,s++(.loop (jv tm n ps as0 b .busy none)::B)⟩ (fun o2 s2=>o2=out∧∃C,s2.sg=s'++(.loop (jv tm n ps as0 b .busy none)::(own'++C))))
def YRun(P:Program)(tm:List (Nat×PV))(n:Nat)(ps:List Nat)(as0 b:Code)(s own:List Box)(e:List PV)(out:Out)(s':List Box):Prop :=
 am P as0 ⟨oS tm ps e,n,s++(.loop (jv tm n ps as0 b .ready none)::own)⟩ (fun o s1=>o=.normal∧∃B,s1.sg=s++(.loop (jv tm n ps as0 b .ready none)::B) ∧
  am P b ⟨s1.tm,s1.n,s++(.loop (jv tm n ps as0 b .busy none)::B)⟩ (fun o2 s2=>o2=out∧∃C,s2.sg=s'++(.loop (jv tm n ps as0 b .busy none)::(own++C))))
theorem lK{α:Type}(s:List α)(x:α)(t:List α):(s++x::t)[s.length]?=some x:=by
 rw[D9 (DS _)];simp
theorem uS{α:Type}(s:List α)(x y:α)(t:List α):(s++x::t).set s.length y=s++y::t:=by
 rw[Fq _ _ (DS _)];simp
theorem mE(s:List Box)(r:LoopR)(t:List Box)(st:LoopState)(p:Option Code):cJ (s++.loop r::t) s.length st p=s++.loop { r with st:=st,pend:=p }::t:=by
 unfold cJ;rw[lK];exact uS _ _ _ _
theorem YieldOk.cut{id:Nat}{args:List PV}{sg sg':List Box}{b:Bool}(h:YieldOk P id args sg (.ret (.bool b)) sg')(m:Nat)(hm:sg.length<=m)(hm':m<=sg'.length)(hlt:∀b∈sg'.take m,b.Lt m):YieldOk P id args sg (.ret (.bool b)) (sg'.take m) :=
 ⟨by simp;omega,fun n G w us l d hR hs hL=>by
  obtain⟨fn,tmps,as1,body,hy,hr⟩:=h.2 n G w us l d hR hs hL;refine⟨fn,tmps,as1,body,hy,RoundIn.mono hr fun e w' ⟨G',a1,a2,a3,a4⟩=>?_⟩
  obtain⟨b1,b2⟩:=mD a1 m hlt;refine⟨_,b1,a2.trans b2 hm,a3,?_⟩;cases e with
  |returned u =>
   have a4':Rep G' (.bool b) u:=a4;obtain rfl:=Lv a4';exact .bool
  |panicked ch=>exact a4
  |outgrown=>exact a4⟩
theorem yield_of{s own own' s':List Box}{e:List PV}{out:Out}{j:Option Code}(hpl:ps.length=e.length)(hps:∀p∈ps,p<n)(hs:s'.length=s.length)(hl:own'.length=own.length)(ho:OwnOk (s.length+1) own')(hb:∀x∈s',x.Lt (s.length+1))(htm:∀t v,b9 tm t=some v->Pv.Lt (s.length+1) v)
 (hj:uT out=some j) (h:YRunT P tm n ps as0 b s own own' e out s') :
 YieldOk P s.length e (s++(.loop (jv tm n ps as0 b .ready none)::own)) (.ret (.bool j.isNone)) (s'++(.loop (jv tm n ps as0 b (if j.isNone then .ready else .done) j)::own')):=by
 obtain⟨o,s1,hr1,rfl,B,hB,o2,s2,hr2,rfl,C,hC⟩:=h;have hB1:s1.sg[s.length]?=some (.loop (jv tm n ps as0 b .ready none)):=by rw[hB];exact lK _ _ _
 have hr2':Run P b { s1 with sg:=cJ s1.sg s.length .busy none } o2 s2:=by
  rw[hB,mE];exact hr2
 have key:=YieldOk.of (P:=P) (id:=s.length) (args:=e) (sg:=s++(.loop (jv tm n ps as0 b .ready none)::own)) (r:=jv tm n ps as0 b .ready none) (r1:=jv tm n ps as0 b .ready none) (lK _ _ _) hpl hps hr1 hB1 rfl hr2' hj;have e1:cJ s2.sg s.length (if j.isNone then .ready else .done) j=(s'++.loop (jv tm n ps as0 b (if j.isNone then .ready else .done) j)::own')++C:=by
  rw[hC,←hs,mE];simp[jv]
 rw[e1]at key;have:=key.cut (s.length+1+own'.length) (by simp;omega) (by simp;omega) (fun x hx=>?_)
 ·rw[FU (by simp;omega)]at this
  exact this
 ·rw[FU (by simp;omega)]at hx
  rcases Ez.1 hx with hx|hx
  ·exact(hb x hx).mono (by omega)
  ·rcases D6.1 hx with rfl|hx
   ·exact fun t v hv=>(htm t v hv).mono (by omega)
   ·exact ho x hx
inductive RndG(Rd:List Box->List PV->Out->List Box->Prop)(s:List Box)(e:List PV)(I':List Box->Prop)(QX:Out->List Box->Prop):Prop
 |next (s':List Box) (h:I' s') (hr:Rd s e .normal s')
 |ret (s':List Box) (hs:s'.length=s.length) (hb:∀x∈s',x.Lt (s.length+1)) (hl:SameLoops s s') (h:QX .ret s') (hr:Rd s e .ret s')
 |exit (j:Nat) (s':List Box) (hs:s'.length=s.length) (hb:∀x∈s',x.Lt (s.length+1)) (hl:SameLoops s s') (h:QX (.exit j) s') (hr:Rd s e (.exit j) s')
abbrev RndOk(P:Program)(tm:List (Nat×PV))(n:Nat)(ps:List Nat)(as0 b:Code)(s:List Box)(e:List PV)(I':List Box->Prop)(QX:Out->List Box->Prop):Prop:=RndG (fun s e out s'=>∀own,OwnOk (s.length+1) own->YRun P tm n ps as0 b s own e out s') s e I' QX
theorem pq{s s':List Box}(h:SameLoops s s')(hlen:s'.length=s.length){r r':LoopR}(own:List Box):SameLoops (s++.loop r::own) (s'++.loop r'::own):=by
 refine⟨fun id lr e=>?_,fun id lr e=>?_⟩
 ·by_cases h1:id<s.length
  ·rw[DY h1]at e
   rw[DY (by omega)]
   exact h.1 id lr e
  ·rw[D9 (by omega)]at e
   rw[D9 (by omega),hlen]
   cases hk:id-s.length with
   |zero=>exact⟨r',rfl⟩
   |succ k=>rw[hk]at e;exact⟨lr,e⟩
 ·by_cases h1:id<s.length
  ·rw[DY (by omega)]at e
   rw[DY h1];exact h.2 id lr e
  ·rw[D9 (by omega),hlen]at e
   rw[D9 (by omega)]
   cases hk:id-s.length with
   |zero=>exact⟨r,rfl⟩
   |succ k=>rw[hk]at e;exact⟨lr,e⟩
theorem am.rangeG{Y:Nat->List PV->List Box->Bool->List Box->Prop}(Rd:List Box->List PV->Out->List Box->Prop){f:Operand}{pa:Array Tmp}{g:FuncId}{first cap:List PV}{sg:List Box}{Q:Out->St->Prop}(hf:evO tm f=some (.fn (.func g) first cap))(he:bC P g){L:List (List PV)}(hit:IterG Y P g (fun id=>first++(.yl id::cap)) L)
 (hpl:∀e∈L,pa.toList.length=e.length) (hps:∀p∈pa.toList,p<n) (htm:∀t v,b9 tm t=some v->Pv.Lt (sg.length+1) v) (I:Nat->List Box->Prop) (h0:I 0 sg)
 (hI:∀i s,I i s->s.length=sg.length∧(∀x∈s,x.Lt (sg.length+1))∧SameLoops sg s)
 (hr:∀i e s,L[i]?=some e->I i s->RndG Rd s e (I (i+1)) (fun o s'=>Q o ⟨tm,n,s'++[.gone]⟩))
 (hy:∀{s s':List Box} {e:List PV} {out:Out} {j:Option Code},uT out=some j->s.length=sg.length->s'.length=s.length->(∀x∈s',x.Lt (sg.length+1))->SameLoops s s'->pa.toList.length=e.length->OwnOk 0 (s'++[.loop (jv tm n pa.toList as0 b (if j.isNone then .ready else .done) j)])->Rd s e out s' ->
  Y sg.length e (s++[.loop (jv tm n pa.toList as0 b .ready none)]) j.isNone (s'++[.loop (jv tm n pa.toList as0 b (if j.isNone then .ready else .done) j)]))
 (hend:∀s,I L.length s->Q .normal ⟨tm,n,s++[.gone]⟩):am P (.rangeFunc f pa as0 b) ⟨tm,n,sg⟩ Q:=by
 have lrlt:∀st p,(Box.loop (jv tm n pa.toList as0 b st p)).Lt (sg.length+1):=fun st p=>htm
 have own1:∀{s:List Box} {st p},s.length=sg.length->(∀x∈s,x.Lt (sg.length+1))->OwnOk 0 (s++[.loop (jv tm n pa.toList as0 b st p)]):=fun {s st p} hl hb x hx=>by
  have e:0+(s++[Box.loop (jv tm n pa.toList as0 b st p)]).length=sg.length+1:=by simp[hl]
  rw[e];rcases Ez.1 hx with hx|hx
  ·exact hb x hx
  ·simp at hx;subst hx;exact lrlt st p
 have key:∀(k i:Nat) (s:List Box),i+k=L.length->I i s->∃bb low',FoldR (Y sg.length) (L.drop i) (s++[.loop (jv tm n pa.toList as0 b .ready none)]) bb low' ∧
  ∃s',s'.length=sg.length∧SameLoops sg s'∧((I L.length s'∧low'=s'++[.loop (jv tm n pa.toList as0 b .ready none)])∨(Q .ret ⟨tm,n,s'++[.gone]⟩∧low'=s'++[.loop (jv tm n pa.toList as0 b .done (some .ret))]) ∨
   ∃j,Q (.exit j) ⟨tm,n,s'++[.gone]⟩∧low'=s'++[.loop (jv tm n pa.toList as0 b .done (some (.exit j)))]):=by
  intro k;induction k with
  |zero =>
   intro i s hk hs;obtain rfl:i=L.length:=by omega
   obtain⟨a1,a2,a3⟩:=hI _ _ hs;refine⟨true,_,by rw[List.drop_length];exact .nil _,s,a1,a3,.inl ⟨hs,rfl⟩⟩
  |succ k ih =>
   intro i s hk hs;obtain⟨a1,a2,a3⟩:=hI _ _ hs;have hlt:i<L.length:=by omega
   have hget:L[i]?=some L[i]:=DT hlt;have hdrop:L.drop i=L[i]::L.drop (i+1):=Gl hlt;have hple:=hpl L[i] (E5 hlt);have yr:∀{s':List Box} {out:Out} {j:Option Code},uT out=some j->s'.length=s.length->(∀x∈s',x.Lt (sg.length+1))->SameLoops s s'->Rd s L[i] out s' ->
    Y sg.length L[i] (s++[.loop (jv tm n pa.toList as0 b .ready none)]) j.isNone (s'++[.loop (jv tm n pa.toList as0 b (if j.isNone then .ready else .done) j)]) :=
    fun hj hl hb hsl hrd=>hy hj a1 hl hb hsl hple (own1 (by omega) hb) hrd
   rw[hdrop];cases hr i _ s hget hs with
   |next s1 h1 hy =>
    obtain⟨b1,b2,b3⟩:=hI _ _ h1;obtain⟨bb,low',c1,c2⟩:=ih (i+1) s1 (by omega) h1
    have hsl:SameLoops s s1:=⟨fun id lr e=>by obtain⟨x,hx⟩:=a3.2 id lr e;exact b3.1 id x hx,fun id lr e=>by obtain⟨x,hx⟩:=b3.2 id lr e;exact a3.1 id x hx⟩
    exact⟨bb,low',.next (yr (j:=none) rfl (by omega) b2 hsl hy) c1,c2⟩
   |ret s1 h1 h2 h3 h4 hy =>
    exact⟨false,_,.stop (yr (j:=some .ret) rfl h1 (by rw[←a1];exact h2) h3 hy),s1,by omega,a3.trans h3,.inr (.inl ⟨h4,rfl⟩)⟩
   |exit j s1 h1 h2 h3 h4 hy =>
    exact⟨false,_,.stop (yr (j:=some (.exit j)) rfl h1 (by rw[←a1];exact h2) h3 hy),s1,by omega,a3.trans h3,.inr (.inr ⟨j,h4,rfl⟩)⟩
 obtain⟨i1,i2,i3⟩:=hI _ _ h0;obtain⟨bb,low',hfold,s',hl',hsl',hcase⟩:=key L.length 0 sg (by omega) h0
 obtain⟨v,hcall,hsl⟩:=hit sg.length _ bb low' (own1 rfl i2) (by simp) (by simpa using hfold)
 have fin:∀{r:LoopR} {o:Out},low'=s'++[.loop r]->r.st≠.busy->(match r.pend with
  |none=>o=.normal∧(⟨tm,n,s'++[.gone]⟩:St)={ tm:=tm,n:=n,sg:=low'.set sg.length .gone }
  |some c=>Run P c { tm:=tm,n:=n,sg:=low'.set sg.length .gone } o ⟨tm,n,s'++[.gone]⟩)->Q o ⟨tm,n,s'++[.gone]⟩->am P (.rangeFunc f pa as0 b) ⟨tm,n,sg⟩ Q:=by
  intro r o e hb hk hq;refine⟨o,_,Run.rangeFunc (st:=⟨tm,n,sg⟩) hf he hcall hsl ?_ hb hk,hq⟩;rw[e]
  show(s'++[Box.loop r])[sg.length]?=_
  rw[←hl'];exact lK _ _ _
 have hset:∀{r:LoopR},(s'++[Box.loop r]).set sg.length .gone=s'++[.gone]:=by
  intro r;rw[←hl'];exact uS _ _ _ _
 rcases hcase with ⟨c1,rfl⟩|⟨c1,rfl⟩|⟨j,c1,rfl⟩
 ·exact fin rfl (by simp[jv]) (by simp only[jv];exact⟨trivial,by rw[hset]⟩) (hend _ c1)
 ·exact fin rfl (by simp[jv]) (by simp only[jv];rw[hset];exact Run.ret _) c1
 ·exact fin rfl (by simp[jv]) (by simp only[jv];rw[hset];exact Run.exit j _) c1
theorem am.range{f:Operand}{pa:Array Tmp}{g:FuncId}{first cap:List PV}{sg:List Box}{Q:Out->St->Prop}(hf:evO tm f=some (.fn (.func g) first cap))(he:bC P g){L:List (List PV)}(hit:uN P g (fun id=>first++(.yl id::cap)) L)
 (hpl:∀e∈L,pa.toList.length=e.length) (hps:∀p∈pa.toList,p<n) (htm:∀t v,b9 tm t=some v->Pv.Lt (sg.length+1) v) (I:Nat->List Box->Prop) (h0:I 0 sg)
 (hI:∀i s,I i s->s.length=sg.length∧(∀x∈s,x.Lt (sg.length+1))∧SameLoops sg s)
 (hr:∀i e s,L[i]?=some e->I i s->RndOk P tm n pa.toList as0 b s e (I (i+1)) (fun o s'=>Q o ⟨tm,n,s'++[.gone]⟩))
 (hend:∀s,I L.length s->Q .normal ⟨tm,n,s++[.gone]⟩):am P (.rangeFunc f pa as0 b) ⟨tm,n,sg⟩ Q:=by
 refine am.rangeG _ hf he hit hpl hps htm I h0 hI hr (fun {s s' e out j} hj hs hl hb hsl hpe hoo hy=>?_) hend
 refine⟨by simp[hl],hoo,fun own ho=>?_⟩
 have ho':OwnOk (s.length+1) own:=by simpa using ho
 have:=yield_of (own:=own) (own':=own) hpe hps hl rfl ho' (by rw[hs];exact hb) (by rw[hs];exact htm) hj (hy own ho')
 rw[hs]at this;refine⟨by simpa using this,?_⟩
 have:=pq (r:=jv tm n pa.toList as0 b .ready none) (r':=jv tm n pa.toList as0 b (if j.isNone then .ready else .done) j) hsl hl own
 simpa using this
end
section
variable {P:Program} {T:TypeId->TyI}
open Classical in
noncomputable def cp(cf:CallF)(g:FuncId)(args:List PV)(sg:List Box)(r:PRes)(sg':List Box):CallF:=fun g1 a1 s1=>if g1=g∧a1=args∧s1=sg then some (r,sg')else cf g1 a1 s1
theorem ar{cf:CallF}(h:CallFOk P cf){g:FuncId}{args:List PV}{sg sg':List Box}{r:PRes}(he:bC P g)(hc:ab P g args sg r sg')(hs:SameLoops sg sg'):CallFOk P (cp cf g args sg r sg'):=by
 intro f a s r1 s1 e;unfold cp at e;split at e
 ·rename_i hh
  obtain⟨rfl,rfl,rfl⟩:=hh;cases e;exact⟨he,hc,hs⟩
 ·exact h _ _ _ _ _ e
open Classical in
noncomputable def xM(id:Nat)(e:List PV)(sg:List Box)(b:Bool)(sg':List Box):dF:=fun id1 a1 s1=>if id1=id∧a1=e∧s1=sg then some (.ret (.bool b),sg')else none
theorem p8{id:Nat}{e:List PV}{sg sg':List Box}{b:Bool}(h:YieldOk P id e sg (.ret (.bool b)) sg')(hs:SameLoops sg sg'):dB P (xM id e sg b sg'):=by
 intro id1 a s r1 s1 e;unfold xM at e;split at e
 ·rename_i hh
  obtain⟨rfl,rfl,rfl⟩:=hh;cases e;exact⟨h,hs⟩
 ·cases e
def qp(me:Meth)(cf:CallF)(yf:dF)(T:TypeId->TyI)(ops:Array Oper)(st:St)(o:Oper):Option (Out×St) :=
 match E1 ops st.tm o with
 |some true=>zm me cf yf T st o
 |some false=>if dOk o st.n=true then some (.normal,{ tm:=putD st.tm o.dst (.tuple []),n:=st.n,sg:=st.sg })else none
 |none=>none
def zd(me:Meth)(cf:CallF)(yf:dF)(T:TypeId->TyI)(ops:Array Oper)(os:List Oper)(st:St)(Q:Out->St->Prop):Prop :=
 ∃o st',gH me cf yf T ops os st=some (o,st')∧Q o st'
variable {me:Meth} {cf:CallF} {yf:dF} {ops:Array Oper} {st st1:St} {Q:Out->St->Prop}
theorem zd.nil(h:Q .normal st):zd me cf yf T ops [] st Q:=⟨_,_,rfl,h⟩
theorem zd.step{o:Oper}{os:List Oper}(h:qp me cf yf T ops st o=some (.normal,st1))(hq:zd me cf yf T ops os st1 Q):zd me cf yf T ops (o::os) st Q:=by
 obtain⟨o',st',h1,h2⟩:=hq;refine⟨o',st',?_,h2⟩;unfold qp at h;unfold gH;split at h
 ·rename_i hw;simp only[hw,h];exact h1
 ·rename_i hw
  split at h <;> cases h
  rename_i hd;simp only[hw,hd,Fy];exact h1
 ·cases h
theorem am.regY{id:Nat}{os:List Oper}(hT:TyT P T)(hcf:CallFOk P cf)(hyf:dB P yf)(hme:cQ P me)(h:zd me cf yf T os.toArray os st Q):am P (.region id os.toArray false) st Q:=by
 obtain⟨o,st',h1,h2⟩:=h;exact⟨o,st',lW hT hcf hyf hme (by simpa using h1),h2⟩
theorem AZ.full{o:Oper}{os:List Oper}{fid:Nat}{K:List DRec->St->Prop}(hn:mX o.op=true)(hd:dOk o st.n=true)(hw:E1 ops st.tm o=some true)(h0:opD (pV me cf) T st.tm st.sg fid o.op=none)(h:zm me cf noY T st o=some (.normal,st1))
 (hq:AZ me cf T ops os (fid+1) st1 (fun rs s=>K ({ want:=true,fid,v:=.tuple [],ef:=none,rb:=fid::gM st.tm o.op,full:=some st1 }::rs) s)):AZ me cf T ops (o::os) fid st K:=by
 obtain⟨rs,st',h1,h2⟩:=hq;refine⟨_::rs,st',?_,h2⟩;unfold ya;simp only[hd,hw,h0,h,hn,Fy,app];rw[h1]
theorem ab.ofB(hT:TyT P T){f:FuncId}{fn:Func}{c:Code}{args:List PV}{sg sg':List Box}{n0:Nat}{v:PV}(hf:P.funcs[f]?=some fn)(hb:fn.body=some c)(hn0:n0=args.length+(fn.ntmps-args.length))
 (hrun:am P c ⟨ik 0 args,n0,sg⟩ (fun o st'=>o.ends=true∧SameLoops sg st'.sg∧si T st' fn.results=some v∧∃C,st'.sg=sg'++C)) (hlen:sg'.length=sg.length) (hlt:∀b∈sg',b.Lt sg.length) (hv:Pv.Lt sg.length v):ab P f args sg (.ret v) sg':=by
 obtain⟨o,st',hr,h1,h2,h3,C,h4⟩:=hrun;have:=ab.body hT hf hb hn0 hr h1 h3 h2
 have ht:st'.sg.take sg.length=sg':=by rw[h4];exact FU hlen
 have:=this.cut (by rw[ht];exact hlt) hv
 rw[ht]at this;exact this
theorem SameLoops.symm{a b:List Box}(h:SameLoops a b):SameLoops b a:=⟨h.2,h.1⟩
theorem SameLoops.app{a b:List Box}(C:List Box)(h:dl C=true)(k:SameLoops a b):SameLoops a (b++C):=by
 have hC:∀id lr,b.length<=id->(b++C)[id]?≠some (.loop lr):=fun id lr hid e=>by
  rw[D9 hid]at e;have:=D7.1 h _ (DU e)
  simp[isLoopB]at this
 refine⟨fun id lr e=>?_,fun id lr e=>?_⟩
 ·obtain⟨x,hx⟩:=k.1 id lr e
  exact⟨x,by rw[DY (DR.1 hx).1];exact hx⟩
 ·by_cases hid:id<b.length
  ·rw[DY hid]at e;exact k.2 id lr e
  ·exact absurd e (hC id lr (by omega))
theorem kL.cutP{k0:Nat}{s:St}(ts:List Nat)(S C:List Box){tm':List (Nat×PV)}(h1:s.sg=S++C)(h2:k0<=S.length)(h3:iK ts s.tm=tm')(h4:∀p∈tm',Pv.Lt S.length p.2)(h5:∀b∈S,b.Lt S.length)(h6:dl C=true):kL P k0 s ⟨tm',s.n,S⟩:=by
 intro c st hk hr;have r1:=Run.post hr (aL.tm (st:=s) (tm':=tm') fun t v e=>by rw[←h3]at e;exact eK e)
 have ht:s.sg.take S.length=S:=by rw[h1];exact FU rfl
 have:=Run.cut r1 S.length (by rw[hk];exact h2) (by simp[h1]) (fun b hb=>by rw[show({ s with tm:=tm' }:St).sg=s.sg from rfl,ht]at hb;exact h5 b hb) h4 (fun v e=>by cases e) (fun id r hid e=>by
  have e':s.sg[id]?=some (.loop r):=e;rw[h1,D9 hid]at e';have:=D7.1 h6 _ (DU e')
  simp[isLoopB]at this)
 have e2:({ s with tm:=tm',sg:=s.sg.take S.length }:St)=⟨tm',s.n,S⟩:=by rw[ht]
 rw[←e2];exact this
end
theorem dO{α:Type}(S B:List α)(j:Nat):(S++B)[S.length+j]?=B[j]?:=by
 rw[D9 (by omega)];congr 1;omega
theorem dS{α:Type}(S B:List α):(S++B)[S.length]?=B[0]?:=dO S B 0
theorem d8{α:Type}(S B:List α)(j:Nat)(x:α):(S++B).set (S.length+j) x=S++B.set j x:=by
 rw[Fq _ _ (by omega)];congr 2;omega
theorem gq{α:Type}(S B:List α)(x:α):(S++B).set S.length x=S++B.set 0 x:=d8 S B 0 x
theorem Mv{α:Type}{S:List α}{j:Nat}{x:α}(h:S[j]?=some x)(B:List α):(S++B)[j]?=some x:=by
 rw[DY (DR.1 h).1];exact h
section
variable {P:Program} {T:TypeId->TyI} {me:Meth} {cf:CallF} {ops:Array Oper} {st st1 st2:St} {out:Out} {Q:Out->St->Prop}
theorem bQ.pre{l:List Nat}(h:aL st st1)(h1:bQ P ops l st1 out st2):bQ P ops l st out st2 :=
 ⟨Em h.1 h1.1,fun r n G a w db Q hs k=>let ⟨G1,hs1,hl⟩:=h.2 r G a w db hs;h1.2 r n G1 a w db Q hs1 fun e a' w' G' he hs' hl'=>k _ _ _ G' he hs' (hl.trans hl' h.1)⟩
def kI(P:Program)(me:Meth)(cf:CallF)(T:TypeId->TyI)(ops:Array Oper)(i:Nat)(os:List Oper)(st:St)(Q:Out->St->Prop):Prop :=
 TyT P T->CallFOk P cf->cQ P me->(∀(j:Nat) (o:Oper),os[j]?=some o->ops[i+j]?=some o)->∃out st',bQ P ops (List.range' i os.length) st out st'∧Q out st'
theorem kI.nil{i:Nat}(h:Q .normal st):kI P me cf T ops i [] st Q:=fun _ _ _ _=>⟨_,_,bQ.nil ops _,h⟩
theorem kI.step{i:Nat}{o:Oper}{os:List Oper}(h:oP me cf T ops st o=some (.normal,st1))(hq:kI P me cf T ops (i+1) os st1 Q):kI P me cf T ops i (o::os) st Q:=by
 intro hT hcf hme hos;have hi:ops[i]?=some o:=hos 0 o rfl;have hos':∀(j:Nat) (o:Oper),os[j]?=some o->ops[i+1+j]?=some o:=fun j o' hj=>by
  have:=hos (j+1) o' (by simpa using hj)
  rw[show i+1+j=i+(j+1)by omega]
  exact this
 obtain⟨out,st',h1,h2⟩:=hq hT hcf hme hos';refine⟨out,st',?_,h2⟩;rw[Ek,Fd];unfold oP at h;split at h
 ·rename_i hw
  exact bQ.cons hi hw (j4 hT hcf sa hme h) h1
 ·rename_i hw
  split at h <;> cases h
  rename_i hd;exact bQ.skip hi hw (jU hd) h1
 ·cases h
theorem kI.ghost{i:Nat}{os:List Oper}(h:aL st st1)(hq:kI P me cf T ops i os st1 Q):kI P me cf T ops i os st Q:=by
 intro hT hcf hme hos;obtain⟨out,st',h1,h2⟩:=hq hT hcf hme hos;exact⟨out,st',bQ.pre h h1,h2⟩
theorem aL.freeze(t id:Nat){tm tm':List (Nat×PV)}{n m k:Nat}{e:TypeId}{sg sg':List Box}{es:List PV}(h:b9 tm t=some (.ms id m))(hb:sg[id]?=some (.row false e k es false))
 (hm:es.length=m) (hc:ad es=true) (e1:sg.set id (.row false e k es true)=sg') (e2:jW tm t (.sl .a es)=tm'):aL ⟨tm,n,sg⟩ ⟨tm',n,sg'⟩:=by
 have hrows:bW sg [id]=sg':=by
  unfold bW;simp only[hb,bW];rw[bE (n:=4) (flat es) sg (bj es hc)];simp only[bx];exact e1
 have hid:sg'[id]?=some (.row false e k es true):=by
  rw[←e1];exact D4 (DR.1 hb).1
 have hv:dh sg' (.ms id m)=some (.sl .a es):=by
  show view1 sg' (.ms id m)=_;unfold view1;simp[hid,hm]
 have g1:aL ⟨tm,n,sg⟩ ⟨tm,n,sg'⟩:=by
  have:=aL.rows [id] sg ⟨tm,n,sg⟩ rfl
  rw[hrows]at this;exact this
 have g2:aL ⟨tm,n,sg'⟩ ⟨tm',n,sg'⟩:=by
  have:=aL.view (n:=n) (sg:=sg') h hv
  rw[e2]at this;exact this
 exact g1.trans g2
theorem kI.freeze{i:Nat}{os:List Oper}(t id:Nat){tm tm':List (Nat×PV)}{n m k:Nat}{e:TypeId}{sg sg':List Box}{es:List PV}(h:b9 tm t=some (.ms id m))(hb:sg[id]?=some (.row false e k es false))
 (hm:es.length=m) (hc:ad es=true) (e1:sg.set id (.row false e k es true)=sg') (e2:jW tm t (.sl .a es)=tm') (hq:kI P me cf T ops i os ⟨tm',n,sg'⟩ Q):kI P me cf T ops i os ⟨tm,n,sg⟩ Q :=
 kI.ghost (aL.freeze t id h hb hm hc e1 e2) hq
end
section
variable {P:Program} {T:TypeId->TyI} {G:Gh} {sg:List Box} {w:World}
end
section
variable {P:Program} {T:TypeId->TyI} {me:Meth} {cf:CallF} {ops:Array Oper} {st st1:St} {Q:Out->St->Prop}
end
section
variable {P:Program}
end
theorem Rel.setBox{G:Gh}{sg:List Box}{w:World}(h:Rel G sg w){id:Nat}{s:Slot}{b':Box}(hs:G.rho[id]?=some s)(hok:BoxOk G w s b'):Rel G (sg.set id b') w where
 below:=h.below
 len:=by rw[Fr];exact h.len
 box i s' b hsi hbi:=by
  by_cases e:id=i
  ·subst e
   have hlt:id<sg.length:=by
    have:=(DR.1 hbi).1
    simpa using this
   rw[D4 hlt]at hbi;cases hbi;rw[hs]at hsi;cases hsi;exact hok
  ·rw[D8 e]at hbi
   exact h.box i s' b hsi hbi
 inj:=h.inj
 st:=h.st
 stM:=h.stM
 dfr:=h.dfr
 tab:=h.tab
theorem aL.pfVar{tm:List (Nat×PV)}{n:Nat}{sg:List Box}(id j:Nat){cs:List PV}(e:TypeId)(k:Nat)(hb:sg[id]?=some (.var cs false))(hc:cs[j]?=some (.sl .n [])):
 aL ⟨tm,n,sg⟩ ⟨tm,n,sg.set id (.var (cs.set j (.pf sg.length 0 0)) false)++[.row true e k [] false]⟩:=by
 refine⟨by simp,fun r G a w db hs=>?_⟩
 have hle:=G.push_le (.row (.slice none 0 0) 0 k);have hR:Rel (G.push (.row (.slice none 0 0) 0 k)) (sg++[.row true e k [] false]) w:=by
  refine hs.rel.push (Below.refl _ w) (fun g e=>by cases e) ?_
  refine⟨rfl,rfl,by simp,by simp,by simp[flat],⟨[],?_,by simp[flat],fun j c u hc=>by simp[flat]at hc⟩,fun g e=>by cases e⟩
  exact⟨by simp,.inl ⟨rfl,rfl⟩⟩
 have hlast:(G.push (.row (.slice none 0 0) 0 k)).rho[sg.length]?=some (.row (.slice none 0 0) 0 k):=by
  have hl:G.rho.length=sg.length:=hs.rel.len
  show(G.rho++[_])[sg.length]?=_
  rw[←hl,D9 (DS _)];simp
 have hid:id<sg.length:=(DR.1 hb).1;have hb':(sg++[Box.row true e k [] false])[id]?=some (.var cs false):=by rw[DY hid];exact hb
 obtain⟨s,hs1,hok⟩:=hR.slot hb';have hR2:Rel (G.push (.row (.slice none 0 0) 0 k)) ((sg++[Box.row true e k [] false]).set id (.var (cs.set j (.pf sg.length 0 0)) false)) w:=by
  refine hR.setBox hs1 ?_;cases s <;> simp only[BoxOk]at hok ⊢
  obtain⟨h1,⟨us,T,h2,h3⟩,h4,h5⟩:=hok;refine⟨h1,⟨us,T,h2,⟨by rw[Fr];exact h3.1,fun i c u hc' hu=>?_⟩⟩,fun c hcm=>?_,fun o ho=>h5 o (by simpa using ho)⟩
  ·by_cases hij:j=i
   ·subst hij
    rw[D4 (DR.1 hc).1]at hc';cases hc';cases h3.2 j _ u hc hu with
    |nils=>exact .pf hlast (DS _) rfl fun _=>⟨DS _,rfl⟩
    |sl hz=>exact absurd rfl hz
   ·rw[D8 hij]at hc'
    exact h3.2 i c u hc' hu
  ·rcases FO hcm with h|rfl
   ·exact h4 c h
   ·rfl
 rw[List.set_append_left _ _ hid]at hR2;refine⟨G.push (.row (.slice none 0 0) 0 k),⟨hR2,fun s v hv=>?_,hs.n,hs.dfr,fun l hl=>?_⟩,hle.leM _⟩
 ·obtain⟨u,hu,hr⟩:=hs.tm s v hv
  exact⟨u,hu,hr.mono hle⟩
 ·obtain⟨i,d,lr,e1,e2⟩:=hs.rd l hl
  obtain⟨s',e1',hle'⟩:=hle.rho i _ e1;cases s' <;> simp only[Slot.le]at hle'
  obtain⟨rfl,rfl⟩:=hle';refine⟨i,d,lr,e1',?_⟩;have e2:sg[i]?=some (.loop lr):=e2
  show(sg.set id _++_)[i]?=_
  have hi:i<sg.length:=(DR.1 e2).1;rw[DY (by simpa using hi)]
  by_cases h:id=i
  ·subst h
   rw[hb]at e2;cases e2
  ·rw[D8 h]
   exact e2
theorem am.pfVar{P:Program}{c:Code}{Q:Out->St->Prop}(id j:Nat){tm:List (Nat×PV)}{n:Nat}{sg:List Box}{cs:List PV}(e:TypeId)(k:Nat)(hb:sg[id]?=some (.var cs false))(hc:cs[j]?=some (.sl .n [])){sg':List Box}
 (e1:sg.set id (.var (cs.set j (.pf sg.length 0 0)) false)++[.row true e k [] false]=sg') (hq:am P c ⟨tm,n,sg'⟩ Q):am P c ⟨tm,n,sg⟩ Q :=
 am.pre (st1:=⟨tm,n,sg'⟩) (by rw[←e1];exact aL.pfVar id j e k hb hc) hq
theorem aL.pfMs(t id:Nat){tm tm':List (Nat×PV)}{n m k:Nat}{z frz:Bool}{e:TypeId}{es:List PV}{sg:List Box}(h:b9 tm t=some (.pf id m m))(hb:sg[id]?=some (.row z e k es frz))(hm:es.length=m)(e2:jW tm t (.ms id m)=tm'):aL ⟨tm,n,sg⟩ ⟨tm',n,sg⟩:=by
 refine⟨DS _,fun r G a w db hs=>?_⟩
 obtain⟨u,hu,hru⟩:=hs.tm t _ h;have h2:=uY hs.rel hru hb hm;refine⟨G,⟨hs.rel,fun s x hx=>?_,hs.n,hs.dfr,hs.rd⟩,bK _ _⟩
 have hxx:b9 tm' s=some x:=hx;rw[←e2,eR]at hxx;split at hxx
 ·rename_i hst
  subst hst;cases hxx;exact⟨u,hu,h2⟩
 ·exact hs.tm s x hxx
theorem am.pfMs{P:Program}{c:Code}{Q:Out->St->Prop}(t id:Nat){tm tm':List (Nat×PV)}{n m k:Nat}{z frz:Bool}{e:TypeId}{es:List PV}{sg:List Box}(h:b9 tm t=some (.pf id m m))(hb:sg[id]?=some (.row z e k es frz))(hm:es.length=m)
 (e2:jW tm t (.ms id m)=tm') (hq:am P c ⟨tm',n,sg⟩ Q):am P c ⟨tm,n,sg⟩ Q:=am.pre (aL.pfMs t id h hb hm e2) hq
section
variable {P:Program} {T:TypeId->TyI} {me:Meth} {cf:CallF} {yf:dF} {ops:Array Oper} {st st1:St} {Q:Out->St->Prop}
def qU(P:Program)(me:Meth)(cf:CallF)(yf:dF)(T:TypeId->TyI)(ops:Array Oper)(i:Nat)(os:List Oper)(st:St)(Q:Out->St->Prop):Prop :=
 TyT P T->CallFOk P cf->dB P yf->cQ P me->(∀(j:Nat) (o:Oper),os[j]?=some o->ops[i+j]?=some o)->∃out st',bQ P ops (List.range' i os.length) st out st'∧Q out st'
theorem qU.nil{i:Nat}(h:Q .normal st):qU P me cf yf T ops i [] st Q:=fun _ _ _ _ _=>⟨_,_,bQ.nil ops _,h⟩
theorem qU.step{i:Nat}{o:Oper}{os:List Oper}(h:qp me cf yf T ops st o=some (.normal,st1))(hq:qU P me cf yf T ops (i+1) os st1 Q):qU P me cf yf T ops i (o::os) st Q:=by
 intro hT hcf hyf hme hos;have hi:ops[i]?=some o:=hos 0 o rfl;have hos':∀(j:Nat) (o:Oper),os[j]?=some o->ops[i+1+j]?=some o:=fun j o' hj=>by
  have:=hos (j+1) o' (by simpa using hj)
  rw[show i+1+j=i+(j+1)by omega]
  exact this
 obtain⟨out,st',h1,h2⟩:=hq hT hcf hyf hme hos';refine⟨out,st',?_,h2⟩;rw[Ek,Fd];unfold qp at h;split at h
 ·rename_i hw
  exact bQ.cons hi hw (j4 hT hcf hyf hme h) h1
 ·rename_i hw
  split at h <;> cases h
  rename_i hd;exact bQ.skip hi hw (jU hd) h1
 ·cases h
theorem qU.ghost{i:Nat}{os:List Oper}(h:aL st st1)(hq:qU P me cf yf T ops i os st1 Q):qU P me cf yf T ops i os st Q:=by
 intro hT hcf hyf hme hos;obtain⟨out,st',h1,h2⟩:=hq hT hcf hyf hme hos;exact⟨out,st',bQ.pre h h1,h2⟩
end
section
variable {P:Program} {T:TypeId->TyI}
theorem YieldOk.ghost{id:Nat}{args args1:List PV}{sg sg1 sg':List Box}{r:PRes}(h:YieldOk P id args1 sg1 r sg')(hid:id<sg.length)(hg:aL ⟨ik 0 args,args.length,sg⟩ ⟨ik 0 args,args.length,sg1⟩)(hv:iU (dh sg1) args=some args1):YieldOk P id args sg r sg':=by
 refine⟨Em hg.1 h.1,fun n G w us l d hR hlp hL=>?_⟩
 have hS:RelS G ⟨ik 0 args,args.length,sg⟩ { tmps:=us,defers:=[] } w none (G.dfr,[]) :=
  ⟨hR,by simpa using fY hL 0,by simp[hL.1],⟨[],rfl,rfl,FI,(fun D h=>by cases h),fun _=>rfl⟩,fun l h=>by cases h⟩
 obtain⟨G1,hS1,hl1⟩:=hg.2 none G _ w _ hS;have hd1:G1.dfr=G.dfr:=by
  obtain⟨own,h1,h2,_⟩:=hS1.dfr;have:own=[]:=by
   have h1':[]=own.map markD++[]:=h1;simpa using h1'.symm
  rw[h2,this];rfl
 have hL1:RepL G1 args us:=⟨hL.1,fun j c u hc hu=>by
  obtain⟨x,hx,hr⟩:=hS1.tm j c (by simpa using tx args 0 j c hc)
  rw[hx]at hu;cases hu;exact hr⟩
 obtain⟨G2,b1,b2,b3,b4⟩:=rh hS1.rel hL1 hv;have hlp2:G2.rho[id]?=some (.lp l d):=by
  obtain⟨s1,e1,l1⟩:=hl1.rho id _ hid hlp;cases s1 <;> simp only[Slot.le]at l1
  obtain⟨rfl,rfl⟩:=l1;obtain⟨s2,e2,l2⟩:=b2.rho id _ e1;cases s2 <;> simp only[Slot.le]at l2
  obtain⟨rfl,rfl⟩:=l2;exact e2
 obtain⟨fn,tmps,as1,body,hy,hr⟩:=h.2 n G2 w us l d b1 hlp2 b4;refine⟨fn,tmps,as1,body,hy,RoundIn.mono hr fun e w' ⟨G3,c1,c2,c3,c4⟩=>⟨G3,c1,?_,by rw[c3,b3,hd1],c4⟩⟩
 exact hl1.trans ((b2.leM sg1.length).trans c2 (DS _)) hg.1
variable {me:Meth} {cf:CallF} {yf:dF} {ops:Array Oper} {st st1:St} {Q:Out->St->Prop}
def cT(me:Meth)(cf:CallF)(yf:dF)(T:TypeId->TyI)(ops:Array Oper)(os:List Oper)(fid:Nat)(st:St)(K:List DRec->St->Prop):Prop :=
 ∃rs st',ya me cf yf T ops os fid st=some (rs,st')∧K rs st'
theorem cT.nil{fid:Nat}{K:List DRec->St->Prop}(h:K [] st):cT me cf yf T ops [] fid st K:=⟨_,_,rfl,h⟩
theorem cT.step{o:Oper}{os:List Oper}{fid fid':Nat}{r:DRec}{K:List DRec->St->Prop}(h:xY me cf T ops fid st o=some (r,fid',st1))(hq:cT me cf yf T ops os fid' st1 (fun rs s=>K (r::rs) s)):cT me cf yf T ops (o::os) fid st K:=by
 obtain⟨rs,st',h1,h2⟩:=hq;refine⟨r::rs,st',?_,h2⟩;unfold xY at h;simp only at h;unfold ya;simp only;split at h <;> try (cases h;done)
 rename_i hd;rw[DZ hd];split at h
 ·rename_i hw
  simp only[hw];split at h <;> try (cases h;done)
  rename_i v ef hv;split at h <;> cases h
  rename_i hc;simp only[hv];rw[DZ hc];simp only[app];rw[h1]
 ·rename_i hw
  cases h;simp only[hw,app,Lm];rw[h1]
 ·cases h
theorem cT.full{o:Oper}{os:List Oper}{fid:Nat}{K:List DRec->St->Prop}(hn:mX o.op=true)(hd:dOk o st.n=true)(hw:E1 ops st.tm o=some true)(h0:opD (pV me cf) T st.tm st.sg fid o.op=none)(h:zm me cf yf T st o=some (.normal,st1))
 (hq:cT me cf yf T ops os (fid+1) st1 (fun rs s=>K ({ want:=true,fid,v:=.tuple [],ef:=none,rb:=fid::gM st.tm o.op,full:=some st1 }::rs) s)):cT me cf yf T ops (o::os) fid st K:=by
 obtain⟨rs,st',h1,h2⟩:=hq;refine⟨_::rs,st',?_,h2⟩;unfold ya;simp only[hd,hw,h0,h,hn,Fy,app];rw[h1]
theorem am.drawnY{id:Nat}{os:List Oper}(ids:List Nat){sg0:List Box}(hT:TyT P T)(hcf:CallFOk P cf)(hyf:dB P yf)(hme:cQ P me)(hm:P.follows .mixedOrders=true)(hst:iS os.toArray=true)(hsg:bW st.sg ids++List.replicate (fh os) .dead=sg0)
 (h:cT me cf yf T os.toArray os st.sg.length { tm:=st.tm,n:=st.n,sg:=sg0 } (fun rs s=>nq os.toArray rs=true∧Q .normal s)):am P (.region id os.toArray true) st Q:=by
 obtain⟨rs,st',h1,h2,h3⟩:=h;obtain⟨a,b,c⟩:=p7 hT hcf hyf hme _ _ _ _ _ h1;have hrun:=Run.draw (P:=P) hT (oU hme hcf) hm (id:=id) (ops:=os.toArray) rs (by simpa using b) hst (by simpa using a) h2
 refine⟨_,_,Run.pre ((aL.rows ids st.sg st rfl).trans (aL.deads (fh os) _)) (by rw[hsg];exact hrun),?_⟩
 have:=c 0
 simp only[FX];rw[←this];exact h3
end
theorem ab.snap{P:Program}{f:FuncId}{args args':List PV}{v:PV}{sg:List Box}(h:ab P f args' [] (.ret v) [])(hv:iU (lf sg) args=some args')(hcl:ad args'=true)(hp:plainV v=true):ab P f args sg (.ret v) sg:=by
 refine⟨DS _,fun n G w us hR hL=>?_⟩
 obtain⟨l1,l2⟩:=jw hR (us:=us.toList) (by simpa using hL.1) (fun j c u hc hu=>hL.2 j c u hc (by simpa using hu)) hv hcl
 have hL1:RepL (fQ w) args' us:=⟨by simpa using l1,fun j c u hc hu=>l2 j c u hc (by simpa using hu)⟩
 refine CallsIn.mono (h.2 n (fQ w) w us (jK hR) hL1) fun e w' ⟨G',hR',hl,hdf,hm⟩=>?_
 cases e with
 |panicked ch=>exact hm.elim
 |outgrown=>exact hm.elim
 |returned u =>
  have hm':Rep G' v u:=hm;have hw0:G'.w0=w:=hl.w0;have hbel:Below w.heap.size w w':=by have:=hR'.below;rw[hw0]at this;exact this
  exact⟨G,hR.keep hbel,bK sg.length G,rfl,hm'.plainV hp⟩
def Lu(c:List PV->List Box->Option (PRes×List Box))(args:List PV)(sg:List Box):Option (PRes×List Box) :=
 match iU (lf sg) args with
 |some args'=>if ad args'=true then(match c args' []with
  |some (.ret v,[])=>if plainV v=true then some (.ret v,sg)else none
  |_=>none)
  else none
 |none=>none
theorem dU.snap{P:Program}{f:FuncId}{c:List PV->List Box->Option (PRes×List Box)}(h:dU P f c):dU P f (Lu c):=fun args sg r sg' e=>by
 unfold Lu at e;split at e <;> try (cases e;done)
 rename_i args' hv;split at e <;> try (cases e;done)
 rename_i hcl;split at e <;> try (cases e;done)
 rename_i v hc;split at e <;> cases e
 rename_i hp;obtain⟨a,b,_⟩:=h _ _ _ _ hc;exact⟨a,b.snap hv hcl hp,SameLoops.refl _⟩
abbrev Sig:=Bool×Option Nat×List Nat
def sigR(r:DRec):Sig:=(cF r,wid r,r.rb)
def Ay(p q:Sig):Bool:=p.1||q.1||wD p.2.1 q.2.2||eqO p.2.1 q.2.1||wD q.2.1 p.2.2
theorem AP(p q:DRec):nh p q=Ay (sigR p) (sigR q):=rfl
def renS(f:List Nat)(s:Sig):Sig:=(s.1,s.2.1.map fun i=>f.getD i 0,s.2.2.map fun i=>f.getD i 0)
def idsS(s:Sig):List Nat:=s.2.1.toList++s.2.2
def chkS(ops:Array Oper)(L:List Sig):Bool :=
 let ms:=sD ops.toList []
 (List.range ops.size).all fun j=>match L[j]?,ms[j]? with
  |some q,some m=>(List.range j).all fun i=>match L[i]? with
   |some p=>!Ay p q||m.testBit i
   |none=>true
  |_,_=>false
theorem uG{f:List Nat}(hf:f.Nodup){x y:Nat}(hx:x<f.length)(hy:y<f.length)(h:f.getD x 0=f.getD y 0):x=y:=by
 rw[Ep,Ep,DT hx,DT hy]at h;have hp:=List.pairwise_iff_getElem.1 hf;rcases GC x y with h1|h1|h1
 ·exact absurd h (hp x y hx hy h1)
 ·exact h1
 ·exact absurd h.symm (hp y x hy hx h1)
theorem mem_ren{f:List Nat}(hf:f.Nodup){x:Nat}{l:List Nat}(hx:x<f.length)(hl:∀y∈l,y<f.length):(l.map fun i=>f.getD i 0).contains (f.getD x 0)=l.contains x:=by
 rw[FD,List.contains_iff_mem,List.contains_iff_mem,Ex];constructor
 ·rintro⟨y,hy,e⟩
  rw[←uG hf (hl y hy) hx e];exact hy
 ·exact fun h=>⟨x,h,rfl⟩
theorem ua{f:List Nat}(hf:f.Nodup){o:Option Nat}{l:List Nat}(ho:∀y∈o.toList,y<f.length)(hl:∀y∈l,y<f.length):wD (o.map fun i=>f.getD i 0) (l.map fun i=>f.getD i 0)=wD o l:=by
 cases o with
 |none=>rfl
 |some x=>exact mem_ren hf (ho x (by simp)) hl
theorem eqO_ren{f:List Nat}(hf:f.Nodup){o p:Option Nat}(ho:∀y∈o.toList,y<f.length)(hp:∀y∈p.toList,y<f.length):eqO (o.map fun i=>f.getD i 0) (p.map fun i=>f.getD i 0)=eqO o p:=by
 cases o with
 |none=>rfl
 |some x=>cases p with
  |none=>rfl
  |some y =>
   show(f.getD x 0==f.getD y 0)=(x==y)
   rw[FD,FR,FR];exact⟨uG hf (ho x (by simp)) (hp y (by simp)),fun e=>by rw[e]⟩
theorem Cj{f:List Nat}(hf:f.Nodup){p q:Sig}(hp:∀y∈idsS p,y<f.length)(hq:∀y∈idsS q,y<f.length):Ay (renS f p) (renS f q)=Ay p q:=by
 unfold Ay renS;simp only;rw[ua hf (fun y h=>hp y (EY _ h)) (fun y h=>hq y (Fp _ h)),eqO_ren hf (fun y h=>hp y (EY _ h)) (fun y h=>hq y (EY _ h)),
  ua hf (fun y h=>hq y (EY _ h)) (fun y h=>hp y (Fp _ h))]
theorem fJ{ops:Array Oper}{rs:List DRec}(f:List Nat)(L:List Sig)(hf:f.Nodup)(hids:(L.all fun s=>(idsS s).all fun y=>decide (y<f.length))=true)(hL:rs.map sigR=L.map (renS f))(hchk:chkS ops L=true):nq ops rs=true:=by
 unfold nq;rw[Fk];refine .inr ?_;unfold chkS at hchk;simp only[D7]at hchk ⊢;have hin:∀{i:Nat} {s:Sig},L[i]?=some s->∀y∈idsS s,y<f.length:=fun {i s} h y hy=>by
  have:=D7.1 hids s (DU h)
  simpa using D7.1 this y hy
 have hget:∀{i:Nat} {p:DRec},rs[i]?=some p->∃s,L[i]?=some s∧sigR p=renS f s:=fun {i p} h=>by
  have h1:(rs.map sigR)[i]?=some (sigR p):=by simp[h]
  rw[hL,Eh,EC]at h1;obtain⟨s,a,b⟩:=h1;exact⟨s,a,b.symm⟩
 intro j hj;have hjj:=hchk j hj;have hlen:rs.length=L.length:=by have:=congrArg List.length hL;simpa using this
 cases hq:rs[j]? with
 |none =>
  have:L[j]?=none:=by rw[List.getElem?_eq_none_iff]at hq ⊢;omega
  rw[this]at hjj;cases hjj
 |some q =>
  obtain⟨sq,e1,e2⟩:=hget hq;rw[e1]at hjj;split at hjj
  ·rename_i q' m hq' hm
   cases hq';simp only[hm,D7]at hjj ⊢;intro i hi;have hii:=hjj i hi;cases hp:rs[i]? with
   |none=>rfl
   |some p =>
    obtain⟨sp,e3,e4⟩:=hget hp;rw[e3]at hii;simp only at hii ⊢;rw[AP,e4,e2,Cj hf (hin e3) (hin e1)];exact hii
  ·cases hjj
theorem am.cutK{P:Program}{c y:Code}{st:St}{Q:Out->St->Prop}(ks:List Nat){tm':List (Nat×PV)}{n':Nat}{sg':List Box}(h:am P c st (fun o s=>o=.normal∧iK ks s.tm=tm'∧s.n=n'∧s.sg=sg'))(hq:am P y ⟨tm',n',sg'⟩ Q):am P (.seq c y) st Q :=
 am.seq (h.mono fun o s ⟨e1,e2,e3,e4⟩=>by
  subst e1;obtain⟨tm,n,sg⟩:=s;cases e3;cases e4;exact am.keep ks e2 hq)
section
variable {P:Program} {T:TypeId->TyI}
theorem ab.deferring2(hT:TyT P T){f g:FuncId}{fn gn:Func}{args:List PV}{sg:List Box}{c1 c2 rest:Code}{id1 d tc td te:Nat}{id0:Nat}{pos pos1 pos2:String}{ty ty1 ty2:TypeId}{af1 af2:Array Edge}
 (hf:P.funcs[f]?=some fn) (hb:fn.body=some (.seq c1 (.seq (.region id1 #[{ dst:=some tc,op:=.makeFunc (.func g) #[] #[.tmp td,.tmp te],type:=ty1,pos:=pos1,after:=af1,guard:=none },{ dst:=none,op:=.defer { callee:=.value (.tmp tc),args:=#[],argTypes:=#[] },type:=ty2,pos:=pos2,after:=af2,guard:=none }] false) c2)))
 (hg:P.funcs[g]?=some gn) (hgb:gn.body=some (.seq (.region id0 #[{ dst:=some d,op:=.call { callee:=.builtin .recover,args:=#[],argTypes:=#[] },type:=ty,pos:=pos,after:=#[],guard:=none }] false) rest)) (hgr:gn.results=#[]) (hgd:d<2+(gn.ntmps-2)) (hge:bC P g)
 {st1 st2:St} {idv idw:Nat} (h1:dJ P c1 ⟨ik 0 args,args.length+(fn.ntmps-args.length),sg⟩ .normal st1) (hv:b9 st1.tm td=some (.bp idv 0)) (hw:b9 st1.tm te=some (.bp idw 0)) (htc:tc<st1.n)
 {m:Mode} (h2:Run P c2 { tm:=jW st1.tm tc (.fn (.func g) [] [.bp idv 0,.bp idw 0]),n:=st1.n,sg:=st1.sg } (match m with|.ret=>.ret|.pan v=>.panic v) st2)
 {st3:St} (h3:dJ P rest ⟨jW [(0,.bp idv 0),(1,.bp idw 0)] d m.rv,2+(gn.ntmps-2),st2.sg⟩ .normal st3)
 {v:PV} (hres:si T { tm:=st2.tm,n:=st2.n,sg:=st3.sg } fn.results=some v) (hsl:SameLoops sg st2.sg) (hidv:idv<st1.sg.length) (hidw:idw<st1.sg.length):ab P f args sg (.ret v) st3.sg:=by
 have hlen:sg.length<=st3.sg.length:=Em h1.1 (Em h2.1 h3.1);refine⟨hlen,fun n G w us hR hL=>callsIn_of_wp_marks hf hb trivial (wpIn_seq ?_)⟩
 refine h1.2 n G _ w _ hR (fY hL _) (by simp[hL.1]) fun e a1 w1 G1 he r1 r2 r3 r4 r5 r6=>?_
 obtain rfl:=he.normal';refine wpIn_seq (wpIn_region ?_)
 show wpOpsIn _ n P _ _ [0,1] a1 w1;obtain⟨xv,hxv,hrv⟩:=r2 td _ hv;obtain⟨gv,hgv⟩:∃gv,xv=.pointer (some ⟨gv,0,none⟩):=by cases hrv;exact⟨_,rfl⟩
 subst hgv;obtain⟨xw,hxw,hrw⟩:=r2 te _ hw;obtain⟨gw,hgw⟩:∃gw,xw=.pointer (some ⟨gw,0,none⟩):=by cases hrw;exact⟨_,rfl⟩
 subst hgw;have hev:a1.eval (.tmp td)=.pointer (some ⟨gv,0,none⟩):=by simp[Act.eval,EH,hxv]
 have hevw:a1.eval (.tmp te)=.pointer (some ⟨gw,0,none⟩):=by simp[Act.eval,EH,hxw]
 have hfn:Rep G1 (.fn (.func g) [] [.bp idv 0,.bp idw 0]) (.func (.func g) #[] #[.pointer (some ⟨gv,0,none⟩),.pointer (some ⟨gw,0,none⟩)]) :=
  .fn (fun l h=>by cases h) rfl rfl (fun j c u h=>by simp at h) (fun j c u hc hu=>by match j,hc,hu with|0,hc,hu=>(cases hc;cases hu;exact hrv)|1,hc,hu=>(cases hc;cases hu;exact hrw)|j+2,hc,_=>cases hc)
 simp only[wpOpsIn,Gg,Fu,FB];have hw0:∀(o:Oper) (y:Array Value) (ops:Array Oper),o.guard=none->Region.wanted o (yielded ops y)=true:=fun o y ops h=>by unfold Region.wanted;rw[h]
 rw[DZ (hw0 _ _ _ rfl)];refine⟨fun f _=>trivial,?_⟩
 have hop1:∀(o:Oper),o.op=.makeFunc (.func g) #[] #[.tmp td,.tmp te]->(o.semAt Fence.wide.round a1.eval).run P w1=.ok (.value (.func (.func g) #[] #[.pointer (some ⟨gv,0,none⟩),.pointer (some ⟨gw,0,none⟩)])) w1:=fun o ho=>by
  rw[Oper.semAt_eq _ _ _ (fun c e=>by rw[ho]at e;cases e)]
  simp[execOp,ho,Instr.makeFunc,hev,hevw]
 rw[hop1 _ rfl];dsimp only[Oper.uponIn];have hev2:(a1.put (some tc) (.func (.func g) #[] #[.pointer (some ⟨gv,0,none⟩),.pointer (some ⟨gw,0,none⟩)])).eval (.tmp tc)=.func (.func g) #[] #[.pointer (some ⟨gv,0,none⟩),.pointer (some ⟨gw,0,none⟩)]:=by
  simp[Act.eval,Act.put,EH,r3,htc]
 rw[DZ (hw0 _ _ _ rfl)];refine⟨fun f _=>trivial,?_⟩
 have hop2:∀(o:Oper) (c:Call),o.op=.defer c->c={ callee:=.value (.tmp tc),args:=#[],argTypes:=#[] }->(o.semAt Fence.wide.round (a1.put (some tc) (.func (.func g) #[] #[.pointer (some ⟨gv,0,none⟩),.pointer (some ⟨gw,0,none⟩)])).eval).run P w1=.ok (.defer { target:=.fn (.func g) #[.pointer (some ⟨gv,0,none⟩),.pointer (some ⟨gw,0,none⟩)],args:=#[] }) w1:=fun o c ho hc=>by
  show(execOp _ o).run P w1=_
  subst hc;simp[execOp,ho,resolve,hev2,Deferred.ofValue]
 rw[hop2 _ _ rfl rfl,Oper.uponIn_defer];have hS:RelS G1 { tm:=jW st1.tm tc (.fn (.func g) [] [.bp idv 0,.bp idw 0]),n:=st1.n,sg:=st1.sg } ({ (a1.put (some tc) (.func (.func g) #[] #[.pointer (some ⟨gv,0,none⟩),.pointer (some ⟨gw,0,none⟩)]))with defers:={ target:=.fn (.func g) #[.pointer (some ⟨gv,0,none⟩),.pointer (some ⟨gw,0,none⟩)],args:=#[] }::(a1.put (some tc) (.func (.func g) #[] #[.pointer (some ⟨gv,0,none⟩),.pointer (some ⟨gw,0,none⟩)])).defers }:Act) w1 none (G.dfr,[{ target:=.fn (.func g) #[.pointer (some ⟨gv,0,none⟩),.pointer (some ⟨gw,0,none⟩)],args:=#[] }]):=by
  refine⟨r1,r2.putD (dst:=some tc) (fun d e=>by cases e;rw[r3];exact htc) hfn,(cD a1 (some tc) _).trans r3,⟨[],?_,r5,FI,(fun D h=>by cases h),fun _=>rfl⟩,fun l h=>by cases h⟩
  show _::(a1.put (some tc) _).defers=_;rw[bO,r4];rfl
 refine h2.2 none n G1 _ w1 (G.dfr,_) _ hS fun e2 a2 w2 G2 he2 hs2 hl2=>?_
 obtain⟨own,o1,o2,o3,o4,_⟩:=hs2.dfr;have hl02:Gh.leM sg.length G G2:=r6.trans hl2 h1.1;have hlp:∀(id g d:Nat) (lr:LoopR),G2.rho[id]?=some (.lp g d)->st2.sg[id]?=some (.loop lr)->d∈G.dfr:=fun id g d lr e1 e2=>by
  obtain⟨lr0,h0⟩:=hsl.2 id lr e2;obtain⟨s0,hs0,hok⟩:=hR.slot h0;cases s0 <;> simp only[BoxOk]at hok
  obtain⟨_,tm,_,_,_,hd⟩:=hok;obtain⟨s1,e1',hle⟩:=hl02.rho id _ (DR.1 h0).1 hs0;rw[e1]at e1';cases e1';obtain⟨_,rfl⟩:=hle;exact hd
 have hptr2:Rep G2 (.bp idv 0) (.pointer (some ⟨gv,0,none⟩)):=hrv.monoM hl2 (.bp hidv);have hptw2:Rep G2 (.bp idw 0) (.pointer (some ⟨gw,0,none⟩)):=hrw.monoM hl2 (.bp hidw);have fin:∀(u u':FrameMode),u≠.run->settle u'=.returning->Af G2 m u u'->LeavesInM (FW none) n P fn a2.tmps (fun e w'=>∃G',Rel G' st3.sg w'∧Gh.leM sg.length G G'∧G'.dfr=G.dfr∧match PRes.ret v,e with
  |.ret v,.returned u=>Rep G' v u
  |.pan v,.panicked ch=>∃u,ch=[{ v:=u,recovered:=false }]∧Rep G' v u
  |_,_=>False) a2.defers u w2:=by
  intro u u' hu hset hmo;rw[o1];refine eN hu own G2 w2 hs2.rel o2 o3 o4 hlp fun G3 w3 hR3 hle3 hdf3=>?_
  refine⟨hu,.inr ⟨fun h=>(by cases h),.func g,#[.pointer (some ⟨gv,0,none⟩),.pointer (some ⟨gw,0,none⟩)],g,#[.pointer (some ⟨gv,0,none⟩),.pointer (some ⟨gw,0,none⟩)],rfl,?_,fun _ _=>trivial,?_⟩⟩
  ·simp[invoke,hge _ w3]
  ·have hmo3:Af G3 m u u':=by
    cases m with
    |ret=>exact hmo
    |pan y=>obtain⟨x,hx,a,b⟩:=hmo;exact⟨x,hx.mono hle3,a,b⟩
   refine CallsDIn.mono (tL hT (n:=n-1) (cap:=[.bp idv 0,.bp idw 0]) (sg:=st2.sg) (us:=#[.pointer (some ⟨gv,0,none⟩),.pointer (some ⟨gw,0,none⟩)]) hg hgb hgr hgd h3 hR3 ⟨rfl,fun j c u hc hu=>by match j,hc,hu with|0,hc,hu=>(cases hc;cases hu;exact hptr2.mono hle3)|1,hc,hu=>(cases hc;cases hu;exact hptw2.mono hle3)|j+2,hc,_=>cases hc⟩ hmo3) fun e u'' w4 h=>?_
   obtain⟨⟨y,rfl⟩,hu'',G4,hR4,hl4,hdf4⟩:=h;show LeavesIn _ n P fn a2.tmps _ [] (settle u'') w4;rw[hu'',hset];have hT4:RepT G4 st2.tm a2.tmps:=fun t x e=>by
    obtain⟨y,hy,hr⟩:=hs2.tm t x e;exact⟨y,hy,(hr.mono hle3).monoM hl4 (hs2.rel.len▸hr.lt)⟩
   obtain⟨y,hy,hr⟩:=qc (P:=P) (fn:=fn) (st:={ tm:=st2.tm,n:=st2.n,sg:=st3.sg }) hT hR4 hT4 hres;exact⟨y,hy,G4,hR4,(hl02.trans (hle3.leM sg.length) (DS _)).trans hl4 (Em h1.1 h2.1),hdf4.trans hdf3,hr⟩
 cases m with
 |ret =>
  cases e2 <;> first|exact he2.elim|skip
  exact fin .returning .returning (by simp) rfl ⟨rfl,rfl⟩
 |pan y =>
  cases e2 <;> first|exact he2.elim|skip
  obtain⟨x,rfl,hx⟩:=he2;exact fin (.panicking [{ v:=x,recovered:=false }]) (.panicking [{ v:=x,recovered:=true }]) (by simp) rfl ⟨x,hx,rfl,rfl⟩
end
section
variable {P:Program} {tm:List (Nat×PV)} {n:Nat} {as0 b:Code}
end
theorem aL.nilBox{st:St}{id j:Nat}{cs:List PV}(h:st.sg[id]?=some (.var cs false))(hj:cs[j]?=some (.sl .n []))(e:TypeId)(k:Nat):
 aL st { st with sg:=(st.sg++[Box.row true e k [] false]).set id (.var (cs.set j (.ms st.sg.length 0)) false) }:=by
 have hid:id<st.sg.length:=(DR.1 h).1;refine aL.of (by simp) (fun G w hR=>?_) (fun id' lr hl=>?_)
 ·have hle:=G.push_le (Slot.row (.slice none 0 0) 0 k)
  have hR1:Rel (G.push (Slot.row (.slice none 0 0) 0 k)) (st.sg++[.row true e k [] false]) w:=by
   refine hR.push (Below.refl _ w) (fun g e=>by cases e) ?_
   refine⟨rfl,rfl,by simp,by simp,by simp[flat],⟨[],?_,by simp[flat],fun j c u hc=>by simp[flat]at hc⟩,fun g e=>by cases e⟩
   exact⟨by simp,.inl ⟨rfl,rfl⟩⟩
  have hlast:(G.push (Slot.row (.slice none 0 0) 0 k)).rho[st.sg.length]?=some (Slot.row (.slice none 0 0) 0 k):=by
   show(G.rho++[_])[st.sg.length]?=_
   rw[←hR.len,D9 (DS _)];simp
  obtain⟨s,hs,hok⟩:=hR1.slot (id:=id) (b:=.var cs false) (by rw[DY hid];exact h)
  cases s with
  |blk g =>
   obtain⟨b1,⟨us,Ty,hh,hL⟩,ho,hS⟩:=hok;have hsl:=Gh.setSlot_le (G.push (Slot.row (.slice none 0 0) 0 k)) id _ _ hs (Slot.le_refl _);refine⟨_,hR1.change hs (Slot.le_refl _) (gj (Below.refl _ w)) (fun g h=>.inl h) (fun g h=>by cases h;exact b1) (fun g h o v hv=>by cases h;rw[hS o (.inl rfl)]at hv;cases hv) (fun g h es c hm=>?_) (fun g h hd=>?_) ?_,Gh.le_trans hle hsl,rfl⟩
   ·cases h
    have:=hR1.stM _ _ _ hm
    rw[hh]at this;cases this
   ·cases h
    have:=(hR1.dfr _ hd).2
    rw[hh]at this;cases this
   ·refine⟨b1,⟨us,Ty,hh,by rw[Fr];exact hL.1,fun i c u hc hu=>?_⟩,fun c hc=>?_,fun o ho'=>hS o (.inl rfl)⟩
    ·by_cases hi:j=i
     ·subst hi
      have hjl:j<cs.length:=(DR.1 hj).1;rw[D4 hjl]at hc;cases hc;have hr:=hL.2 j _ u hj hu;refine Rep.mono hsl ?_;cases hr with
      |nils=>exact .ms hlast (DS _) rfl fun _=>rfl
      |sl hz=>exact absurd rfl hz
     ·rw[D8 hi]at hc
      exact(hL.2 i c u hc hu).mono hsl
    ·rcases FO hc with hc|rfl
     ·exact ho c hc
     ·rfl
  |dead=>simp[BoxOk]at hok
  |lp g d=>simp[BoxOk]at hok
  |row v n k=>simp[BoxOk]at hok
 ·have hne:id≠id':=fun e=>by subst e;rw[h]at hl;cases hl
  have hl':id'<st.sg.length:=(DR.1 hl).1;rw[D8 hne,DY hl'];exact hl
theorem am.nilBox{P:Program}{c:Code}{Q:Out->St->Prop}(id j:Nat)(e:TypeId)(k:Nat){tm:List (Nat×PV)}{n:Nat}{sg sg':List Box}{cs:List PV}(h:sg[id]?=some (.var cs false))(hj:cs[j]?=some (.sl .n []))
 (e2:(sg++[Box.row true e k [] false]).set id (.var (cs.set j (.ms sg.length 0)) false)=sg') (hq:am P c ⟨tm,n,sg'⟩ Q):am P c ⟨tm,n,sg⟩ Q :=
 am.pre (st1:=⟨tm,n,sg'⟩) (by have:=aL.nilBox (st:=⟨tm,n,sg⟩) h hj e k;rw[e2]at this;exact this) hq
end Go.Pv
