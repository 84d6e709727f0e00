import Derived.Test.YtkjalecddameoaaGreatDoorSmFit
import Derived.Test.YtkjalecddameoaaGreatDoorSoMore
set_option linter.all false
namespace Go.Pv
open Go Go.RowKit Go.Proofs
set_option maxRecDepth 200000
set_option maxHeartbeats 8000000
def pdB(s:Sty)(p:List Int):Bool:=scB s.sc&&decide (s.sc.length<=1000)&&decide (p.length<=10)&&p.all fun x=>decide (0<=x∧x<s.sc.length)
structure Pdx(s:Sty)(p:List Int):Prop where
 sc:ScOk s.sc
 sl:s.sc.length<=1000
 p2:p.length<=10
 rg:∀x∈p,0<=x∧x<s.sc.length
theorem pd_of{s:Sty}{p:List Int}(h:pdB s p=true):Pdx s p:=by
 unfold pdB scB at h;simp only[Bool.and_eq_true,List.all_eq_true,decide_eq_true_eq]at h;exact⟨h.1.1.1,h.1.1.2,h.1.2,h.2⟩
theorem pd_to{s:Sty}{n:Nt}{p:List Int}(h:Vd s n p):pdB s p=true:=by
 unfold pdB scB;simp only[Bool.and_eq_true,List.all_eq_true,decide_eq_true_eq];exact⟨⟨⟨h.sc,h.sl⟩,h.p2⟩,h.rg⟩
def c63:Tb_
 |[v,u],sg=>match cS v,aN u with
  |some s,some p=>if pdB s p=true then some (.ret (.bool (dT s.sc 0 p)),sg)else none
  |_,_=>none
 |_,_=>none
theorem c63_ok:al Tryz.prog 63 c63:=al.of0 (ent Tryz.func63 rfl) fun args sg r sg' h=>by
 unfold c63 at h;split at h <;> try (cases h;done)
 split at h <;> try (cases h;done)
 rename_i s p h1 h2;split at h <;> cases h
 rename_i hc;obtain⟨rfl,hok⟩:=aM h1;obtain⟨z,rfl,hz⟩:=aJ h2;have hp:=pd_of hc;exact⟨_,rfl,rfl,by rw[af,cm,af,bt];rfl,ta s hok z p (zOkI hz) (by have:=hp.p2;omega) hp.sl⟩
def c64:Tb_
 |[v,u],sg=>match cS v,aN u with
  |some s,some p=>if pdB s p=true then some (.ret (.bool (un (scn s.sc p))),sg)else none
  |_,_=>none
 |_,_=>none
theorem c64_ok:al Tryz.prog 64 c64:=al.of0 (ent Tryz.func64 rfl) fun args sg r sg' h=>by
 unfold c64 at h;split at h <;> try (cases h;done)
 split at h <;> try (cases h;done)
 rename_i s p h1 h2;split at h <;> cases h
 rename_i hc;obtain⟨rfl,hok⟩:=aM h1;obtain⟨z,rfl,hz⟩:=aJ h2;have hp:=pd_of hc;exact⟨_,rfl,rfl,by rw[af,cm,af,bt];rfl,Ordered_64 s hok hp.sc z p hz hp.rg (by have:=hp.p2;omega)⟩
def c65:Tb_
 |[v,w,u],sg=>match cS v,gJ w,aN u with
  |some s,some n,some p=>if pdB s p=true then some (.ret (pM n (scn s.sc p)),sg)else none
  |_,_,_=>none
 |_,_=>none
theorem c65_ok:al Tryz.prog 65 c65:=al.of0 (ent Tryz.func65 rfl) fun args sg r sg' h=>by
 unfold c65 at h;split at h <;> try (cases h;done)
 split at h <;> try (cases h;done)
 rename_i s n p h1 h2 h3;split at h <;> cases h
 rename_i hc;obtain⟨rfl,hok⟩:=aM h1;obtain rfl:=dz h2;obtain⟨z,rfl,hz⟩:=aJ h3;have hp:=pd_of hc;exact⟨_,rfl,rfl,by rw[af,cm,af,af,bt];rfl,wj s hok n z p hz hp.rg (by have:=hp.p2;omega)⟩
end Go.Pv
